/- The laying of copyCheck. -/
import Derived.KernelRfl
import Derived.Test.YteblngbleioncaaDoorA6
import Derived.Test.YteblngbleioncaaDoorProg
import Derived.Test.YteblngbleioncaaDoorA3
import Derived.Test.YteblngbleioncaaDoorShelf
namespace Go.Proofs
open Go.Shelf
def Tryd.laysCC_ren : Go.Shelf.Ren := ⟨fun | 240 => 80 | 276 => 89 | n => n, fun | 4 => 4 | 70 => 80 | 72 => 82 | 37 => 76 | 164 => 104 | n => n, fun | n => n⟩
theorem Tryd.laysCC : CCLay Tryd.prog Tryd.laysCC_ren := {
  mixed := by kernel_rfl
  f240 := Tryd.func80.trans (congrArg some (by kernel_rfl))
  f276 := Tryd.func89.trans (congrArg some (by kernel_rfl))
  t4 := Tryd.underlying4
  a4 := Tryd.isAgg4
  z4 := Tryd.sizeOf4
  v4 := Tryd.zeroValue4
  t70 := Tryd.underlying80
  a70 := Tryd.isAgg80
  z70 := Tryd.sizeOf80
  v70 := Tryd.zeroValue80
  t72 := Tryd.underlying82
  a72 := Tryd.isAgg82
  z72 := Tryd.sizeOf82
  v72 := Tryd.zeroValue82
  t164 := Tryd.underlying104
  a164 := Tryd.isAgg104
  z164 := Tryd.sizeOf104
  v164 := Tryd.zeroValue104 }
theorem Tryd.Builder_X72_CC : Builder.X72 Tryd.prog Tryd.laysCC_ren := {
  sizeBuilder := by kernel_rfl
  liesBuilder := by kernel_rfl }
end Go.Proofs

/-
  The abstract program belongs to this seat's program.
-/
namespace Go.Ab.YteblngbleioncaaDoor
open Go.Proofs Go.Shelf
set_option linter.unusedVariables false
set_option maxRecDepth 20000
def gfn : FuncId → Option Nat := fun f => match f with
  | 4 => some 264
  | 10 => some 256
  | 12 => some 258
  | 13 => some 259
  | 14 => some 260
  | 15 => some 262
  | 16 => some 263
  | 17 => some 265
  | 19 => some 267
  | 21 => some 199
  | 22 => some 274
  | 23 => some 275
  | 24 => some 276
  | 25 => some 277
  | 26 => some 278
  | 27 => some 209
  | 30 => some 281
  | 32 => some 283
  | 33 => some 285
  | 34 => some 284
  | 35 => some 286
  | 36 => some 287
  | 37 => some 288
  | 38 => some 289
  | 39 => some 290
  | 40 => some 291
  | 41 => some 292
  | 42 => some 293
  | 43 => some 295
  | 44 => some 294
  | 45 => some 296
  | 46 => some 299
  | 47 => some 297
  | 48 => some 298
  | 49 => some 300
  | 50 => some 301
  | 51 => some 302
  | 52 => some 303
  | 55 => some 128
  | 56 => some 305
  | 57 => some 115
  | 59 => some 306
  | 60 => some 307
  | 61 => some 308
  | 62 => some 309
  | 63 => some 310
  | 64 => some 58
  | 65 => some 59
  | 66 => some 57
  | 67 => some 72
  | 68 => some 311
  | 69 => some 133
  | 70 => some 312
  | 71 => some 215
  | 72 => some 313
  | 73 => some 114
  | 74 => some 111
  | 76 => some 135
  | 77 => some 314
  | 79 => some 315
  | 80 => some 73
  | 81 => some 79
  | 83 => some 124
  | 84 => some 125
  | 85 => some 126
  | 86 => some 127
  | 87 => some 82
  | 93 => some 134
  | 94 => some 78
  | _ => none
def gm : GMap := { fn := gfn, tB := 82, tU := 5, inv := fun κ => ∃ m, κ.C (Tryd.laysM146_ren.g 1) 0 = some (.int .i64 m), mono := fun _ _ h ⟨m, hm⟩ => ⟨m, h _ _ _ hm⟩, glob := fun _ => none, globOK := fun _ _ _ _ h => by cases h }
theorem chk4 : chkFn Tryd.prog gm Tryd.f4 F_posthornlaw20_DateParses = true := by kernel_rfl
theorem chk10 : chkFn Tryd.prog gm Tryd.f10 F_date_Print = true := by kernel_rfl
theorem chk12 : chkFn Tryd.prog gm Tryd.f12 F_date_Weekday = true := by kernel_rfl
theorem chk13 : chkFn Tryd.prog gm Tryd.f13 F_posthornref20_Weekday = true := by kernel_rfl
theorem chk14 : chkFn Tryd.prog gm Tryd.f14 F_posthornlaw20_alive = true := by kernel_rfl
theorem chk15 : chkFn Tryd.prog gm Tryd.f15 F_date_Parse = true := by kernel_rfl
theorem chk16 : chkFn Tryd.prog gm Tryd.f16 F_posthornref20_Parse = true := by kernel_rfl
theorem chk17 : chkFn Tryd.prog gm Tryd.f17 F_date_ID = true := by kernel_rfl
theorem chk19 : chkFn Tryd.prog gm Tryd.f19 F_date_IDs = true := by kernel_rfl
theorem chk21 : chkFn Tryd.prog gm Tryd.f21 F_when_Right = true := by kernel_rfl
theorem chk22 : chkFn Tryd.prog gm Tryd.f22 F_date_isShift = true := by kernel_rfl
theorem chk23 : chkFn Tryd.prog gm Tryd.f23 F_when_Civil = true := by kernel_rfl
theorem chk24 : chkFn Tryd.prog gm Tryd.f24 F_date_two = true := by kernel_rfl
theorem chk25 : chkFn Tryd.prog gm Tryd.f25 F_date_dayName = true := by kernel_rfl
theorem chk26 : chkFn Tryd.prog gm Tryd.f26 F_date_monthName = true := by kernel_rfl
theorem chk27 : chkFn Tryd.prog gm Tryd.f27 F_posthornref12_Time = true := by kernel_rfl
theorem chk30 : chkFn Tryd.prog gm Tryd.f30 F_posthornref20_Day = true := by kernel_rfl
theorem chk32 : chkFn Tryd.prog gm Tryd.f32 F_posthornref20_Month = true := by kernel_rfl
theorem chk33 : chkFn Tryd.prog gm Tryd.f33 F_date_words = true := by kernel_rfl
theorem chk34 : chkFn Tryd.prog gm Tryd.f34 F_date_bare = true := by kernel_rfl
theorem chk35 : chkFn Tryd.prog gm Tryd.f35 F_date_weekday = true := by kernel_rfl
theorem chk36 : chkFn Tryd.prog gm Tryd.f36 F_date_digits = true := by kernel_rfl
theorem chk37 : chkFn Tryd.prog gm Tryd.f37 F_date_name = true := by kernel_rfl
theorem chk38 : chkFn Tryd.prog gm Tryd.f38 F_date_year = true := by kernel_rfl
theorem chk39 : chkFn Tryd.prog gm Tryd.f39 F_date_clock = true := by kernel_rfl
theorem chk40 : chkFn Tryd.prog gm Tryd.f40 F_date_zone = true := by kernel_rfl
theorem chk41 : chkFn Tryd.prog gm Tryd.f41 F_when_Days = true := by kernel_rfl
theorem chk42 : chkFn Tryd.prog gm Tryd.f42 F_posthornref20_clean = true := by kernel_rfl
theorem chk43 : chkFn Tryd.prog gm Tryd.f43 F_posthornref20_named = true := by kernel_rfl
theorem chk44 : chkFn Tryd.prog gm Tryd.f44 F_posthornref20_words = true := by kernel_rfl
theorem chk45 : chkFn Tryd.prog gm Tryd.f45 F_posthornref20_number = true := by kernel_rfl
theorem chk46 : chkFn Tryd.prog gm Tryd.f46 F_posthornref12_Days = true := by kernel_rfl
theorem chk47 : chkFn Tryd.prog gm Tryd.f47 F_posthornref20_yearOf = true := by kernel_rfl
theorem chk48 : chkFn Tryd.prog gm Tryd.f48 F_posthornref20_monthOf = true := by kernel_rfl
theorem chk49 : chkFn Tryd.prog gm Tryd.f49 F_posthornref20_clockOf = true := by kernel_rfl
theorem chk50 : chkFn Tryd.prog gm Tryd.f50 F_posthornref20_zoneOf = true := by kernel_rfl
theorem chk51 : chkFn Tryd.prog gm Tryd.f51 F_date_isDomain = true := by kernel_rfl
theorem chk52 : chkFn Tryd.prog gm Tryd.f52 F_date_five = true := by kernel_rfl
theorem chk55 : chkFn Tryd.prog gm Tryd.f55 F_strings_Cut = true := by kernel_rfl
theorem chk56 : chkFn Tryd.prog gm Tryd.f56 F_strings_CutPrefix = true := by kernel_rfl
theorem chk57 : chkFn Tryd.prog gm Tryd.f57 F_addr_Plain = true := by kernel_rfl
theorem chk59 : chkFn Tryd.prog gm Tryd.f59 F_when_before = true := by kernel_rfl
theorem chk60 : chkFn Tryd.prog gm Tryd.f60 F_when_month = true := by kernel_rfl
theorem chk61 : chkFn Tryd.prog gm Tryd.f61 F_posthornref12_Year = true := by kernel_rfl
theorem chk62 : chkFn Tryd.prog gm Tryd.f62 F_posthornref12_Month = true := by kernel_rfl
theorem chk63 : chkFn Tryd.prog gm Tryd.f63 F_date_words_c1 = true := by kernel_rfl
theorem chk64 : chkFn Tryd.prog gm Tryd.f64 F_P_strings_Builder_WriteString = true := by kernel_rfl
theorem chk66 : chkFn Tryd.prog gm Tryd.f66 F_P_strings_Builder_WriteByte = true := by kernel_rfl
theorem chk67 : chkFn Tryd.prog gm Tryd.f67 F_strings_HasPrefix = true := by kernel_rfl
theorem chk68 : chkFn Tryd.prog gm Tryd.f68 F_date_lower = true := by kernel_rfl
theorem chk70 : chkFn Tryd.prog gm Tryd.f70 F_posthornref20_dayOf = true := by kernel_rfl
theorem chk71 : chkFn Tryd.prog gm Tryd.f71 F_posthornref04_Parts = true := by kernel_rfl
theorem chk72 : chkFn Tryd.prog gm Tryd.f72 F_posthornref12_Value = true := by kernel_rfl
theorem chk73 : chkFn Tryd.prog gm Tryd.f73 F_posthornref04_Lower = true := by kernel_rfl
theorem chk74 : chkFn Tryd.prog gm Tryd.f74 F_addr_Right = true := by kernel_rfl
theorem chk76 : chkFn Tryd.prog gm Tryd.f76 F_internal_stringslite_Cut = true := by kernel_rfl
theorem chk77 : chkFn Tryd.prog gm Tryd.f77 F_internal_stringslite_CutPrefix = true := by kernel_rfl
theorem chk79 : chkFn Tryd.prog gm Tryd.f79 F_when_leap = true := by kernel_rfl
theorem chk81 : chkFn Tryd.prog gm Tryd.f81 F_internal_stringslite_HasPrefix = true := by kernel_rfl
theorem chk83 : chkFn Tryd.prog gm Tryd.f83 F_addr_parts = true := by kernel_rfl
theorem chk84 : chkFn Tryd.prog gm Tryd.f84 F_addr_isAtom = true := by kernel_rfl
theorem chk85 : chkFn Tryd.prog gm Tryd.f85 F_addr_isLabel = true := by kernel_rfl
theorem chk86 : chkFn Tryd.prog gm Tryd.f86 F_addr_isName = true := by kernel_rfl
theorem chk93 : chkFn Tryd.prog gm Tryd.f93 F_addr_alnum = true := by kernel_rfl
set_option maxRecDepth 100000 in
theorem code_ok : ∀ (f' : FuncId) (f : Nat) (fn : ACFn), gm f' = some f → prog f = some (.code fn) → ∃ pf, Tryd.prog.funcs[f']? = some pf ∧ chkFn Tryd.prog gm pf fn = true := by
  intro f' f fn hg hA
  match f', hg with
  | 0, hg => exact absurd (show (none : Option Nat) = some f from hg) (by simp)
  | 1, hg => exact absurd (show (none : Option Nat) = some f from hg) (by simp)
  | 2, hg => exact absurd (show (none : Option Nat) = some f from hg) (by simp)
  | 3, hg => exact absurd (show (none : Option Nat) = some f from hg) (by simp)
  | 4, hg =>
    obtain rfl : f = 264 := (Option.some.inj (show some 264 = some f from hg)).symm
    obtain rfl : fn = F_posthornlaw20_DateParses := (AFn.code.inj (Option.some.inj (prog_264.symm.trans hA))).symm
    exact ⟨_, Tryd.func4, chk4⟩
  | 5, hg => exact absurd (show (none : Option Nat) = some f from hg) (by simp)
  | 6, hg => exact absurd (show (none : Option Nat) = some f from hg) (by simp)
  | 7, hg => exact absurd (show (none : Option Nat) = some f from hg) (by simp)
  | 8, hg => exact absurd (show (none : Option Nat) = some f from hg) (by simp)
  | 9, hg => exact absurd (show (none : Option Nat) = some f from hg) (by simp)
  | 10, hg =>
    obtain rfl : f = 256 := (Option.some.inj (show some 256 = some f from hg)).symm
    obtain rfl : fn = F_date_Print := (AFn.code.inj (Option.some.inj (prog_256.symm.trans hA))).symm
    exact ⟨_, Tryd.func10, chk10⟩
  | 11, hg => exact absurd (show (none : Option Nat) = some f from hg) (by simp)
  | 12, hg =>
    obtain rfl : f = 258 := (Option.some.inj (show some 258 = some f from hg)).symm
    obtain rfl : fn = F_date_Weekday := (AFn.code.inj (Option.some.inj (prog_258.symm.trans hA))).symm
    exact ⟨_, Tryd.func12, chk12⟩
  | 13, hg =>
    obtain rfl : f = 259 := (Option.some.inj (show some 259 = some f from hg)).symm
    obtain rfl : fn = F_posthornref20_Weekday := (AFn.code.inj (Option.some.inj (prog_259.symm.trans hA))).symm
    exact ⟨_, Tryd.func13, chk13⟩
  | 14, hg =>
    obtain rfl : f = 260 := (Option.some.inj (show some 260 = some f from hg)).symm
    obtain rfl : fn = F_posthornlaw20_alive := (AFn.code.inj (Option.some.inj (prog_260.symm.trans hA))).symm
    exact ⟨_, Tryd.func14, chk14⟩
  | 15, hg =>
    obtain rfl : f = 262 := (Option.some.inj (show some 262 = some f from hg)).symm
    obtain rfl : fn = F_date_Parse := (AFn.code.inj (Option.some.inj (prog_262.symm.trans hA))).symm
    exact ⟨_, Tryd.func15, chk15⟩
  | 16, hg =>
    obtain rfl : f = 263 := (Option.some.inj (show some 263 = some f from hg)).symm
    obtain rfl : fn = F_posthornref20_Parse := (AFn.code.inj (Option.some.inj (prog_263.symm.trans hA))).symm
    exact ⟨_, Tryd.func16, chk16⟩
  | 17, hg =>
    obtain rfl : f = 265 := (Option.some.inj (show some 265 = some f from hg)).symm
    obtain rfl : fn = F_date_ID := (AFn.code.inj (Option.some.inj (prog_265.symm.trans hA))).symm
    exact ⟨_, Tryd.func17, chk17⟩
  | 18, hg => exact absurd (show (none : Option Nat) = some f from hg) (by simp)
  | 19, hg =>
    obtain rfl : f = 267 := (Option.some.inj (show some 267 = some f from hg)).symm
    obtain rfl : fn = F_date_IDs := (AFn.code.inj (Option.some.inj (prog_267.symm.trans hA))).symm
    exact ⟨_, Tryd.func19, chk19⟩
  | 20, hg => exact absurd (show (none : Option Nat) = some f from hg) (by simp)
  | 21, hg =>
    obtain rfl : f = 199 := (Option.some.inj (show some 199 = some f from hg)).symm
    obtain rfl : fn = F_when_Right := (AFn.code.inj (Option.some.inj (prog_199.symm.trans hA))).symm
    exact ⟨_, Tryd.func21, chk21⟩
  | 22, hg =>
    obtain rfl : f = 274 := (Option.some.inj (show some 274 = some f from hg)).symm
    obtain rfl : fn = F_date_isShift := (AFn.code.inj (Option.some.inj (prog_274.symm.trans hA))).symm
    exact ⟨_, Tryd.func22, chk22⟩
  | 23, hg =>
    obtain rfl : f = 275 := (Option.some.inj (show some 275 = some f from hg)).symm
    obtain rfl : fn = F_when_Civil := (AFn.code.inj (Option.some.inj (prog_275.symm.trans hA))).symm
    exact ⟨_, Tryd.func23, chk23⟩
  | 24, hg =>
    obtain rfl : f = 276 := (Option.some.inj (show some 276 = some f from hg)).symm
    obtain rfl : fn = F_date_two := (AFn.code.inj (Option.some.inj (prog_276.symm.trans hA))).symm
    exact ⟨_, Tryd.func24, chk24⟩
  | 25, hg =>
    obtain rfl : f = 277 := (Option.some.inj (show some 277 = some f from hg)).symm
    obtain rfl : fn = F_date_dayName := (AFn.code.inj (Option.some.inj (prog_277.symm.trans hA))).symm
    exact ⟨_, Tryd.func25, chk25⟩
  | 26, hg =>
    obtain rfl : f = 278 := (Option.some.inj (show some 278 = some f from hg)).symm
    obtain rfl : fn = F_date_monthName := (AFn.code.inj (Option.some.inj (prog_278.symm.trans hA))).symm
    exact ⟨_, Tryd.func26, chk26⟩
  | 27, hg =>
    obtain rfl : f = 209 := (Option.some.inj (show some 209 = some f from hg)).symm
    obtain rfl : fn = F_posthornref12_Time := (AFn.code.inj (Option.some.inj (prog_209.symm.trans hA))).symm
    exact ⟨_, Tryd.func27, chk27⟩
  | 28, hg => exact absurd (show (none : Option Nat) = some f from hg) (by simp)
  | 29, hg => exact absurd (show (none : Option Nat) = some f from hg) (by simp)
  | 30, hg =>
    obtain rfl : f = 281 := (Option.some.inj (show some 281 = some f from hg)).symm
    obtain rfl : fn = F_posthornref20_Day := (AFn.code.inj (Option.some.inj (prog_281.symm.trans hA))).symm
    exact ⟨_, Tryd.func30, chk30⟩
  | 31, hg => exact absurd (show (none : Option Nat) = some f from hg) (by simp)
  | 32, hg =>
    obtain rfl : f = 283 := (Option.some.inj (show some 283 = some f from hg)).symm
    obtain rfl : fn = F_posthornref20_Month := (AFn.code.inj (Option.some.inj (prog_283.symm.trans hA))).symm
    exact ⟨_, Tryd.func32, chk32⟩
  | 33, hg =>
    obtain rfl : f = 285 := (Option.some.inj (show some 285 = some f from hg)).symm
    obtain rfl : fn = F_date_words := (AFn.code.inj (Option.some.inj (prog_285.symm.trans hA))).symm
    exact ⟨_, Tryd.func33, chk33⟩
  | 34, hg =>
    obtain rfl : f = 284 := (Option.some.inj (show some 284 = some f from hg)).symm
    obtain rfl : fn = F_date_bare := (AFn.code.inj (Option.some.inj (prog_284.symm.trans hA))).symm
    exact ⟨_, Tryd.func34, chk34⟩
  | 35, hg =>
    obtain rfl : f = 286 := (Option.some.inj (show some 286 = some f from hg)).symm
    obtain rfl : fn = F_date_weekday := (AFn.code.inj (Option.some.inj (prog_286.symm.trans hA))).symm
    exact ⟨_, Tryd.func35, chk35⟩
  | 36, hg =>
    obtain rfl : f = 287 := (Option.some.inj (show some 287 = some f from hg)).symm
    obtain rfl : fn = F_date_digits := (AFn.code.inj (Option.some.inj (prog_287.symm.trans hA))).symm
    exact ⟨_, Tryd.func36, chk36⟩
  | 37, hg =>
    obtain rfl : f = 288 := (Option.some.inj (show some 288 = some f from hg)).symm
    obtain rfl : fn = F_date_name := (AFn.code.inj (Option.some.inj (prog_288.symm.trans hA))).symm
    exact ⟨_, Tryd.func37, chk37⟩
  | 38, hg =>
    obtain rfl : f = 289 := (Option.some.inj (show some 289 = some f from hg)).symm
    obtain rfl : fn = F_date_year := (AFn.code.inj (Option.some.inj (prog_289.symm.trans hA))).symm
    exact ⟨_, Tryd.func38, chk38⟩
  | 39, hg =>
    obtain rfl : f = 290 := (Option.some.inj (show some 290 = some f from hg)).symm
    obtain rfl : fn = F_date_clock := (AFn.code.inj (Option.some.inj (prog_290.symm.trans hA))).symm
    exact ⟨_, Tryd.func39, chk39⟩
  | 40, hg =>
    obtain rfl : f = 291 := (Option.some.inj (show some 291 = some f from hg)).symm
    obtain rfl : fn = F_date_zone := (AFn.code.inj (Option.some.inj (prog_291.symm.trans hA))).symm
    exact ⟨_, Tryd.func40, chk40⟩
  | 41, hg =>
    obtain rfl : f = 292 := (Option.some.inj (show some 292 = some f from hg)).symm
    obtain rfl : fn = F_when_Days := (AFn.code.inj (Option.some.inj (prog_292.symm.trans hA))).symm
    exact ⟨_, Tryd.func41, chk41⟩
  | 42, hg =>
    obtain rfl : f = 293 := (Option.some.inj (show some 293 = some f from hg)).symm
    obtain rfl : fn = F_posthornref20_clean := (AFn.code.inj (Option.some.inj (prog_293.symm.trans hA))).symm
    exact ⟨_, Tryd.func42, chk42⟩
  | 43, hg =>
    obtain rfl : f = 295 := (Option.some.inj (show some 295 = some f from hg)).symm
    obtain rfl : fn = F_posthornref20_named := (AFn.code.inj (Option.some.inj (prog_295.symm.trans hA))).symm
    exact ⟨_, Tryd.func43, chk43⟩
  | 44, hg =>
    obtain rfl : f = 294 := (Option.some.inj (show some 294 = some f from hg)).symm
    obtain rfl : fn = F_posthornref20_words := (AFn.code.inj (Option.some.inj (prog_294.symm.trans hA))).symm
    exact ⟨_, Tryd.func44, chk44⟩
  | 45, hg =>
    obtain rfl : f = 296 := (Option.some.inj (show some 296 = some f from hg)).symm
    obtain rfl : fn = F_posthornref20_number := (AFn.code.inj (Option.some.inj (prog_296.symm.trans hA))).symm
    exact ⟨_, Tryd.func45, chk45⟩
  | 46, hg =>
    obtain rfl : f = 299 := (Option.some.inj (show some 299 = some f from hg)).symm
    obtain rfl : fn = F_posthornref12_Days := (AFn.code.inj (Option.some.inj (prog_299.symm.trans hA))).symm
    exact ⟨_, Tryd.func46, chk46⟩
  | 47, hg =>
    obtain rfl : f = 297 := (Option.some.inj (show some 297 = some f from hg)).symm
    obtain rfl : fn = F_posthornref20_yearOf := (AFn.code.inj (Option.some.inj (prog_297.symm.trans hA))).symm
    exact ⟨_, Tryd.func47, chk47⟩
  | 48, hg =>
    obtain rfl : f = 298 := (Option.some.inj (show some 298 = some f from hg)).symm
    obtain rfl : fn = F_posthornref20_monthOf := (AFn.code.inj (Option.some.inj (prog_298.symm.trans hA))).symm
    exact ⟨_, Tryd.func48, chk48⟩
  | 49, hg =>
    obtain rfl : f = 300 := (Option.some.inj (show some 300 = some f from hg)).symm
    obtain rfl : fn = F_posthornref20_clockOf := (AFn.code.inj (Option.some.inj (prog_300.symm.trans hA))).symm
    exact ⟨_, Tryd.func49, chk49⟩
  | 50, hg =>
    obtain rfl : f = 301 := (Option.some.inj (show some 301 = some f from hg)).symm
    obtain rfl : fn = F_posthornref20_zoneOf := (AFn.code.inj (Option.some.inj (prog_301.symm.trans hA))).symm
    exact ⟨_, Tryd.func50, chk50⟩
  | 51, hg =>
    obtain rfl : f = 302 := (Option.some.inj (show some 302 = some f from hg)).symm
    obtain rfl : fn = F_date_isDomain := (AFn.code.inj (Option.some.inj (prog_302.symm.trans hA))).symm
    exact ⟨_, Tryd.func51, chk51⟩
  | 52, hg =>
    obtain rfl : f = 303 := (Option.some.inj (show some 303 = some f from hg)).symm
    obtain rfl : fn = F_date_five := (AFn.code.inj (Option.some.inj (prog_303.symm.trans hA))).symm
    exact ⟨_, Tryd.func52, chk52⟩
  | 53, hg => exact absurd (show (none : Option Nat) = some f from hg) (by simp)
  | 54, hg => exact absurd (show (none : Option Nat) = some f from hg) (by simp)
  | 55, hg =>
    obtain rfl : f = 128 := (Option.some.inj (show some 128 = some f from hg)).symm
    obtain rfl : fn = F_strings_Cut := (AFn.code.inj (Option.some.inj (prog_128.symm.trans hA))).symm
    exact ⟨_, Tryd.func55, chk55⟩
  | 56, hg =>
    obtain rfl : f = 305 := (Option.some.inj (show some 305 = some f from hg)).symm
    obtain rfl : fn = F_strings_CutPrefix := (AFn.code.inj (Option.some.inj (prog_305.symm.trans hA))).symm
    exact ⟨_, Tryd.func56, chk56⟩
  | 57, hg =>
    obtain rfl : f = 115 := (Option.some.inj (show some 115 = some f from hg)).symm
    obtain rfl : fn = F_addr_Plain := (AFn.code.inj (Option.some.inj (prog_115.symm.trans hA))).symm
    exact ⟨_, Tryd.func57, chk57⟩
  | 58, hg => exact absurd (show (none : Option Nat) = some f from hg) (by simp)
  | 59, hg =>
    obtain rfl : f = 306 := (Option.some.inj (show some 306 = some f from hg)).symm
    obtain rfl : fn = F_when_before := (AFn.code.inj (Option.some.inj (prog_306.symm.trans hA))).symm
    exact ⟨_, Tryd.func59, chk59⟩
  | 60, hg =>
    obtain rfl : f = 307 := (Option.some.inj (show some 307 = some f from hg)).symm
    obtain rfl : fn = F_when_month := (AFn.code.inj (Option.some.inj (prog_307.symm.trans hA))).symm
    exact ⟨_, Tryd.func60, chk60⟩
  | 61, hg =>
    obtain rfl : f = 308 := (Option.some.inj (show some 308 = some f from hg)).symm
    obtain rfl : fn = F_posthornref12_Year := (AFn.code.inj (Option.some.inj (prog_308.symm.trans hA))).symm
    exact ⟨_, Tryd.func61, chk61⟩
  | 62, hg =>
    obtain rfl : f = 309 := (Option.some.inj (show some 309 = some f from hg)).symm
    obtain rfl : fn = F_posthornref12_Month := (AFn.code.inj (Option.some.inj (prog_309.symm.trans hA))).symm
    exact ⟨_, Tryd.func62, chk62⟩
  | 63, hg =>
    obtain rfl : f = 310 := (Option.some.inj (show some 310 = some f from hg)).symm
    obtain rfl : fn = F_date_words_c1 := (AFn.code.inj (Option.some.inj (prog_310.symm.trans hA))).symm
    exact ⟨_, Tryd.func63, chk63⟩
  | 64, hg =>
    obtain rfl : f = 58 := (Option.some.inj (show some 58 = some f from hg)).symm
    obtain rfl : fn = F_P_strings_Builder_WriteString := (AFn.code.inj (Option.some.inj (prog_58.symm.trans hA))).symm
    exact ⟨_, Tryd.func64, chk64⟩
  | 65, hg =>
    obtain rfl : f = 59 := (Option.some.inj (show some 59 = some f from hg)).symm
    rw [prog_59] at hA; cases hA
  | 66, hg =>
    obtain rfl : f = 57 := (Option.some.inj (show some 57 = some f from hg)).symm
    obtain rfl : fn = F_P_strings_Builder_WriteByte := (AFn.code.inj (Option.some.inj (prog_57.symm.trans hA))).symm
    exact ⟨_, Tryd.func66, chk66⟩
  | 67, hg =>
    obtain rfl : f = 72 := (Option.some.inj (show some 72 = some f from hg)).symm
    obtain rfl : fn = F_strings_HasPrefix := (AFn.code.inj (Option.some.inj (prog_72.symm.trans hA))).symm
    exact ⟨_, Tryd.func67, chk67⟩
  | 68, hg =>
    obtain rfl : f = 311 := (Option.some.inj (show some 311 = some f from hg)).symm
    obtain rfl : fn = F_date_lower := (AFn.code.inj (Option.some.inj (prog_311.symm.trans hA))).symm
    exact ⟨_, Tryd.func68, chk68⟩
  | 69, hg =>
    obtain rfl : f = 133 := (Option.some.inj (show some 133 = some f from hg)).symm
    rw [prog_133] at hA; cases hA
  | 70, hg =>
    obtain rfl : f = 312 := (Option.some.inj (show some 312 = some f from hg)).symm
    obtain rfl : fn = F_posthornref20_dayOf := (AFn.code.inj (Option.some.inj (prog_312.symm.trans hA))).symm
    exact ⟨_, Tryd.func70, chk70⟩
  | 71, hg =>
    obtain rfl : f = 215 := (Option.some.inj (show some 215 = some f from hg)).symm
    obtain rfl : fn = F_posthornref04_Parts := (AFn.code.inj (Option.some.inj (prog_215.symm.trans hA))).symm
    exact ⟨_, Tryd.func71, chk71⟩
  | 72, hg =>
    obtain rfl : f = 313 := (Option.some.inj (show some 313 = some f from hg)).symm
    obtain rfl : fn = F_posthornref12_Value := (AFn.code.inj (Option.some.inj (prog_313.symm.trans hA))).symm
    exact ⟨_, Tryd.func72, chk72⟩
  | 73, hg =>
    obtain rfl : f = 114 := (Option.some.inj (show some 114 = some f from hg)).symm
    obtain rfl : fn = F_posthornref04_Lower := (AFn.code.inj (Option.some.inj (prog_114.symm.trans hA))).symm
    exact ⟨_, Tryd.func73, chk73⟩
  | 74, hg =>
    obtain rfl : f = 111 := (Option.some.inj (show some 111 = some f from hg)).symm
    obtain rfl : fn = F_addr_Right := (AFn.code.inj (Option.some.inj (prog_111.symm.trans hA))).symm
    exact ⟨_, Tryd.func74, chk74⟩
  | 75, hg => exact absurd (show (none : Option Nat) = some f from hg) (by simp)
  | 76, hg =>
    obtain rfl : f = 135 := (Option.some.inj (show some 135 = some f from hg)).symm
    obtain rfl : fn = F_internal_stringslite_Cut := (AFn.code.inj (Option.some.inj (prog_135.symm.trans hA))).symm
    exact ⟨_, Tryd.func76, chk76⟩
  | 77, hg =>
    obtain rfl : f = 314 := (Option.some.inj (show some 314 = some f from hg)).symm
    obtain rfl : fn = F_internal_stringslite_CutPrefix := (AFn.code.inj (Option.some.inj (prog_314.symm.trans hA))).symm
    exact ⟨_, Tryd.func77, chk77⟩
  | 78, hg => exact absurd (show (none : Option Nat) = some f from hg) (by simp)
  | 79, hg =>
    obtain rfl : f = 315 := (Option.some.inj (show some 315 = some f from hg)).symm
    obtain rfl : fn = F_when_leap := (AFn.code.inj (Option.some.inj (prog_315.symm.trans hA))).symm
    exact ⟨_, Tryd.func79, chk79⟩
  | 80, hg =>
    obtain rfl : f = 73 := (Option.some.inj (show some 73 = some f from hg)).symm
    rw [prog_73] at hA; cases hA
  | 81, hg =>
    obtain rfl : f = 79 := (Option.some.inj (show some 79 = some f from hg)).symm
    obtain rfl : fn = F_internal_stringslite_HasPrefix := (AFn.code.inj (Option.some.inj (prog_79.symm.trans hA))).symm
    exact ⟨_, Tryd.func81, chk81⟩
  | 82, hg => exact absurd (show (none : Option Nat) = some f from hg) (by simp)
  | 83, hg =>
    obtain rfl : f = 124 := (Option.some.inj (show some 124 = some f from hg)).symm
    obtain rfl : fn = F_addr_parts := (AFn.code.inj (Option.some.inj (prog_124.symm.trans hA))).symm
    exact ⟨_, Tryd.func83, chk83⟩
  | 84, hg =>
    obtain rfl : f = 125 := (Option.some.inj (show some 125 = some f from hg)).symm
    obtain rfl : fn = F_addr_isAtom := (AFn.code.inj (Option.some.inj (prog_125.symm.trans hA))).symm
    exact ⟨_, Tryd.func84, chk84⟩
  | 85, hg =>
    obtain rfl : f = 126 := (Option.some.inj (show some 126 = some f from hg)).symm
    obtain rfl : fn = F_addr_isLabel := (AFn.code.inj (Option.some.inj (prog_126.symm.trans hA))).symm
    exact ⟨_, Tryd.func85, chk85⟩
  | 86, hg =>
    obtain rfl : f = 127 := (Option.some.inj (show some 127 = some f from hg)).symm
    obtain rfl : fn = F_addr_isName := (AFn.code.inj (Option.some.inj (prog_127.symm.trans hA))).symm
    exact ⟨_, Tryd.func86, chk86⟩
  | 87, hg =>
    obtain rfl : f = 82 := (Option.some.inj (show some 82 = some f from hg)).symm
    rw [prog_82] at hA; cases hA
  | 88, hg => exact absurd (show (none : Option Nat) = some f from hg) (by simp)
  | 89, hg => exact absurd (show (none : Option Nat) = some f from hg) (by simp)
  | 90, hg => exact absurd (show (none : Option Nat) = some f from hg) (by simp)
  | 91, hg => exact absurd (show (none : Option Nat) = some f from hg) (by simp)
  | 92, hg => exact absurd (show (none : Option Nat) = some f from hg) (by simp)
  | 93, hg =>
    obtain rfl : f = 134 := (Option.some.inj (show some 134 = some f from hg)).symm
    obtain rfl : fn = F_addr_alnum := (AFn.code.inj (Option.some.inj (prog_134.symm.trans hA))).symm
    exact ⟨_, Tryd.func93, chk93⟩
  | 94, hg =>
    obtain rfl : f = 78 := (Option.some.inj (show some 78 = some f from hg)).symm
    rw [prog_78] at hA; cases hA
  | n + 95, hg => exact absurd (show (none : Option Nat) = some f from hg) (by simp)
set_option maxRecDepth 100000 in
theorem prim_ok : ∀ (f' : FuncId) (f : Nat) (p : List PV → Option PV), gm f' = some f → prog f = some (.prim p) → PrimOK Tryd.prog gm f' p := by
  intro f' f p hg hA
  match f', hg with
  | 0, hg => exact absurd (show (none : Option Nat) = some f from hg) (by simp)
  | 1, hg => exact absurd (show (none : Option Nat) = some f from hg) (by simp)
  | 2, hg => exact absurd (show (none : Option Nat) = some f from hg) (by simp)
  | 3, hg => exact absurd (show (none : Option Nat) = some f from hg) (by simp)
  | 4, hg =>
    obtain rfl : f = 264 := (Option.some.inj (show some 264 = some f from hg)).symm
    rw [prog_264] at hA; cases hA
  | 5, hg => exact absurd (show (none : Option Nat) = some f from hg) (by simp)
  | 6, hg => exact absurd (show (none : Option Nat) = some f from hg) (by simp)
  | 7, hg => exact absurd (show (none : Option Nat) = some f from hg) (by simp)
  | 8, hg => exact absurd (show (none : Option Nat) = some f from hg) (by simp)
  | 9, hg => exact absurd (show (none : Option Nat) = some f from hg) (by simp)
  | 10, hg =>
    obtain rfl : f = 256 := (Option.some.inj (show some 256 = some f from hg)).symm
    rw [prog_256] at hA; cases hA
  | 11, hg => exact absurd (show (none : Option Nat) = some f from hg) (by simp)
  | 12, hg =>
    obtain rfl : f = 258 := (Option.some.inj (show some 258 = some f from hg)).symm
    rw [prog_258] at hA; cases hA
  | 13, hg =>
    obtain rfl : f = 259 := (Option.some.inj (show some 259 = some f from hg)).symm
    rw [prog_259] at hA; cases hA
  | 14, hg =>
    obtain rfl : f = 260 := (Option.some.inj (show some 260 = some f from hg)).symm
    rw [prog_260] at hA; cases hA
  | 15, hg =>
    obtain rfl : f = 262 := (Option.some.inj (show some 262 = some f from hg)).symm
    rw [prog_262] at hA; cases hA
  | 16, hg =>
    obtain rfl : f = 263 := (Option.some.inj (show some 263 = some f from hg)).symm
    rw [prog_263] at hA; cases hA
  | 17, hg =>
    obtain rfl : f = 265 := (Option.some.inj (show some 265 = some f from hg)).symm
    rw [prog_265] at hA; cases hA
  | 18, hg => exact absurd (show (none : Option Nat) = some f from hg) (by simp)
  | 19, hg =>
    obtain rfl : f = 267 := (Option.some.inj (show some 267 = some f from hg)).symm
    rw [prog_267] at hA; cases hA
  | 20, hg => exact absurd (show (none : Option Nat) = some f from hg) (by simp)
  | 21, hg =>
    obtain rfl : f = 199 := (Option.some.inj (show some 199 = some f from hg)).symm
    rw [prog_199] at hA; cases hA
  | 22, hg =>
    obtain rfl : f = 274 := (Option.some.inj (show some 274 = some f from hg)).symm
    rw [prog_274] at hA; cases hA
  | 23, hg =>
    obtain rfl : f = 275 := (Option.some.inj (show some 275 = some f from hg)).symm
    rw [prog_275] at hA; cases hA
  | 24, hg =>
    obtain rfl : f = 276 := (Option.some.inj (show some 276 = some f from hg)).symm
    rw [prog_276] at hA; cases hA
  | 25, hg =>
    obtain rfl : f = 277 := (Option.some.inj (show some 277 = some f from hg)).symm
    rw [prog_277] at hA; cases hA
  | 26, hg =>
    obtain rfl : f = 278 := (Option.some.inj (show some 278 = some f from hg)).symm
    rw [prog_278] at hA; cases hA
  | 27, hg =>
    obtain rfl : f = 209 := (Option.some.inj (show some 209 = some f from hg)).symm
    rw [prog_209] at hA; cases hA
  | 28, hg => exact absurd (show (none : Option Nat) = some f from hg) (by simp)
  | 29, hg => exact absurd (show (none : Option Nat) = some f from hg) (by simp)
  | 30, hg =>
    obtain rfl : f = 281 := (Option.some.inj (show some 281 = some f from hg)).symm
    rw [prog_281] at hA; cases hA
  | 31, hg => exact absurd (show (none : Option Nat) = some f from hg) (by simp)
  | 32, hg =>
    obtain rfl : f = 283 := (Option.some.inj (show some 283 = some f from hg)).symm
    rw [prog_283] at hA; cases hA
  | 33, hg =>
    obtain rfl : f = 285 := (Option.some.inj (show some 285 = some f from hg)).symm
    rw [prog_285] at hA; cases hA
  | 34, hg =>
    obtain rfl : f = 284 := (Option.some.inj (show some 284 = some f from hg)).symm
    rw [prog_284] at hA; cases hA
  | 35, hg =>
    obtain rfl : f = 286 := (Option.some.inj (show some 286 = some f from hg)).symm
    rw [prog_286] at hA; cases hA
  | 36, hg =>
    obtain rfl : f = 287 := (Option.some.inj (show some 287 = some f from hg)).symm
    rw [prog_287] at hA; cases hA
  | 37, hg =>
    obtain rfl : f = 288 := (Option.some.inj (show some 288 = some f from hg)).symm
    rw [prog_288] at hA; cases hA
  | 38, hg =>
    obtain rfl : f = 289 := (Option.some.inj (show some 289 = some f from hg)).symm
    rw [prog_289] at hA; cases hA
  | 39, hg =>
    obtain rfl : f = 290 := (Option.some.inj (show some 290 = some f from hg)).symm
    rw [prog_290] at hA; cases hA
  | 40, hg =>
    obtain rfl : f = 291 := (Option.some.inj (show some 291 = some f from hg)).symm
    rw [prog_291] at hA; cases hA
  | 41, hg =>
    obtain rfl : f = 292 := (Option.some.inj (show some 292 = some f from hg)).symm
    rw [prog_292] at hA; cases hA
  | 42, hg =>
    obtain rfl : f = 293 := (Option.some.inj (show some 293 = some f from hg)).symm
    rw [prog_293] at hA; cases hA
  | 43, hg =>
    obtain rfl : f = 295 := (Option.some.inj (show some 295 = some f from hg)).symm
    rw [prog_295] at hA; cases hA
  | 44, hg =>
    obtain rfl : f = 294 := (Option.some.inj (show some 294 = some f from hg)).symm
    rw [prog_294] at hA; cases hA
  | 45, hg =>
    obtain rfl : f = 296 := (Option.some.inj (show some 296 = some f from hg)).symm
    rw [prog_296] at hA; cases hA
  | 46, hg =>
    obtain rfl : f = 299 := (Option.some.inj (show some 299 = some f from hg)).symm
    rw [prog_299] at hA; cases hA
  | 47, hg =>
    obtain rfl : f = 297 := (Option.some.inj (show some 297 = some f from hg)).symm
    rw [prog_297] at hA; cases hA
  | 48, hg =>
    obtain rfl : f = 298 := (Option.some.inj (show some 298 = some f from hg)).symm
    rw [prog_298] at hA; cases hA
  | 49, hg =>
    obtain rfl : f = 300 := (Option.some.inj (show some 300 = some f from hg)).symm
    rw [prog_300] at hA; cases hA
  | 50, hg =>
    obtain rfl : f = 301 := (Option.some.inj (show some 301 = some f from hg)).symm
    rw [prog_301] at hA; cases hA
  | 51, hg =>
    obtain rfl : f = 302 := (Option.some.inj (show some 302 = some f from hg)).symm
    rw [prog_302] at hA; cases hA
  | 52, hg =>
    obtain rfl : f = 303 := (Option.some.inj (show some 303 = some f from hg)).symm
    rw [prog_303] at hA; cases hA
  | 53, hg => exact absurd (show (none : Option Nat) = some f from hg) (by simp)
  | 54, hg => exact absurd (show (none : Option Nat) = some f from hg) (by simp)
  | 55, hg =>
    obtain rfl : f = 128 := (Option.some.inj (show some 128 = some f from hg)).symm
    rw [prog_128] at hA; cases hA
  | 56, hg =>
    obtain rfl : f = 305 := (Option.some.inj (show some 305 = some f from hg)).symm
    rw [prog_305] at hA; cases hA
  | 57, hg =>
    obtain rfl : f = 115 := (Option.some.inj (show some 115 = some f from hg)).symm
    rw [prog_115] at hA; cases hA
  | 58, hg => exact absurd (show (none : Option Nat) = some f from hg) (by simp)
  | 59, hg =>
    obtain rfl : f = 306 := (Option.some.inj (show some 306 = some f from hg)).symm
    rw [prog_306] at hA; cases hA
  | 60, hg =>
    obtain rfl : f = 307 := (Option.some.inj (show some 307 = some f from hg)).symm
    rw [prog_307] at hA; cases hA
  | 61, hg =>
    obtain rfl : f = 308 := (Option.some.inj (show some 308 = some f from hg)).symm
    rw [prog_308] at hA; cases hA
  | 62, hg =>
    obtain rfl : f = 309 := (Option.some.inj (show some 309 = some f from hg)).symm
    rw [prog_309] at hA; cases hA
  | 63, hg =>
    obtain rfl : f = 310 := (Option.some.inj (show some 310 = some f from hg)).symm
    rw [prog_310] at hA; cases hA
  | 64, hg =>
    obtain rfl : f = 58 := (Option.some.inj (show some 58 = some f from hg)).symm
    rw [prog_58] at hA; cases hA
  | 65, hg =>
    obtain rfl : f = 59 := (Option.some.inj (show some 59 = some f from hg)).symm
    rw [prog_59] at hA; cases hA
  | 66, hg =>
    obtain rfl : f = 57 := (Option.some.inj (show some 57 = some f from hg)).symm
    rw [prog_57] at hA; cases hA
  | 67, hg =>
    obtain rfl : f = 72 := (Option.some.inj (show some 72 = some f from hg)).symm
    rw [prog_72] at hA; cases hA
  | 68, hg =>
    obtain rfl : f = 311 := (Option.some.inj (show some 311 = some f from hg)).symm
    rw [prog_311] at hA; cases hA
  | 69, hg =>
    obtain rfl : f = 133 := (Option.some.inj (show some 133 = some f from hg)).symm
    obtain rfl : p = pStrSplit := (AFn.prim.inj (Option.some.inj (prog_133.symm.trans hA))).symm
    exact primStrSplit (g := gm) { Tryd.laysM146 with } Tryd.laysM146.i9 (fun κ h => h) Tryd.func69 (by kernel_rfl) (by decide)
  | 70, hg =>
    obtain rfl : f = 312 := (Option.some.inj (show some 312 = some f from hg)).symm
    rw [prog_312] at hA; cases hA
  | 71, hg =>
    obtain rfl : f = 215 := (Option.some.inj (show some 215 = some f from hg)).symm
    rw [prog_215] at hA; cases hA
  | 72, hg =>
    obtain rfl : f = 313 := (Option.some.inj (show some 313 = some f from hg)).symm
    rw [prog_313] at hA; cases hA
  | 73, hg =>
    obtain rfl : f = 114 := (Option.some.inj (show some 114 = some f from hg)).symm
    rw [prog_114] at hA; cases hA
  | 74, hg =>
    obtain rfl : f = 111 := (Option.some.inj (show some 111 = some f from hg)).symm
    rw [prog_111] at hA; cases hA
  | 75, hg => exact absurd (show (none : Option Nat) = some f from hg) (by simp)
  | 76, hg =>
    obtain rfl : f = 135 := (Option.some.inj (show some 135 = some f from hg)).symm
    rw [prog_135] at hA; cases hA
  | 77, hg =>
    obtain rfl : f = 314 := (Option.some.inj (show some 314 = some f from hg)).symm
    rw [prog_314] at hA; cases hA
  | 78, hg => exact absurd (show (none : Option Nat) = some f from hg) (by simp)
  | 79, hg =>
    obtain rfl : f = 315 := (Option.some.inj (show some 315 = some f from hg)).symm
    rw [prog_315] at hA; cases hA
  | 80, hg =>
    obtain rfl : f = 73 := (Option.some.inj (show some 73 = some f from hg)).symm
    rw [prog_73] at hA; cases hA
  | 81, hg =>
    obtain rfl : f = 79 := (Option.some.inj (show some 79 = some f from hg)).symm
    rw [prog_79] at hA; cases hA
  | 82, hg => exact absurd (show (none : Option Nat) = some f from hg) (by simp)
  | 83, hg =>
    obtain rfl : f = 124 := (Option.some.inj (show some 124 = some f from hg)).symm
    rw [prog_124] at hA; cases hA
  | 84, hg =>
    obtain rfl : f = 125 := (Option.some.inj (show some 125 = some f from hg)).symm
    rw [prog_125] at hA; cases hA
  | 85, hg =>
    obtain rfl : f = 126 := (Option.some.inj (show some 126 = some f from hg)).symm
    rw [prog_126] at hA; cases hA
  | 86, hg =>
    obtain rfl : f = 127 := (Option.some.inj (show some 127 = some f from hg)).symm
    rw [prog_127] at hA; cases hA
  | 87, hg =>
    obtain rfl : f = 82 := (Option.some.inj (show some 82 = some f from hg)).symm
    obtain rfl : p = pStrIndex := (AFn.prim.inj (Option.some.inj (prog_82.symm.trans hA))).symm
    exact primStrIndex (g := gm) (ρ := Tryd.laysM219_ren) { Tryd.laysM219 with } (fun κ h => h) Tryd.func87 (by kernel_rfl) (by decide)
  | 88, hg => exact absurd (show (none : Option Nat) = some f from hg) (by simp)
  | 89, hg => exact absurd (show (none : Option Nat) = some f from hg) (by simp)
  | 90, hg => exact absurd (show (none : Option Nat) = some f from hg) (by simp)
  | 91, hg => exact absurd (show (none : Option Nat) = some f from hg) (by simp)
  | 92, hg => exact absurd (show (none : Option Nat) = some f from hg) (by simp)
  | 93, hg =>
    obtain rfl : f = 134 := (Option.some.inj (show some 134 = some f from hg)).symm
    rw [prog_134] at hA; cases hA
  | 94, hg =>
    obtain rfl : f = 78 := (Option.some.inj (show some 78 = some f from hg)).symm
    obtain rfl : p = pStrIndexByte := (AFn.prim.inj (Option.some.inj (prog_78.symm.trans hA))).symm
    exact primStrIndexByte (g := gm) Tryd.lays137 Tryd.func94 (by kernel_rfl) (by decide)
  | n + 95, hg => exact absurd (show (none : Option Nat) = some f from hg) (by simp)
set_option maxRecDepth 100000 in
theorem primS_ok : ∀ (f' : FuncId) (f : Nat) (p : List PV → List (List PV) → Option (PV × Upd)), gm f' = some f → prog f = some (.primS p) → PrimSOK Tryd.prog gm f' p := by
  intro f' f p hg hA
  match f', hg with
  | 0, hg => exact absurd (show (none : Option Nat) = some f from hg) (by simp)
  | 1, hg => exact absurd (show (none : Option Nat) = some f from hg) (by simp)
  | 2, hg => exact absurd (show (none : Option Nat) = some f from hg) (by simp)
  | 3, hg => exact absurd (show (none : Option Nat) = some f from hg) (by simp)
  | 4, hg =>
    obtain rfl : f = 264 := (Option.some.inj (show some 264 = some f from hg)).symm
    rw [prog_264] at hA; cases hA
  | 5, hg => exact absurd (show (none : Option Nat) = some f from hg) (by simp)
  | 6, hg => exact absurd (show (none : Option Nat) = some f from hg) (by simp)
  | 7, hg => exact absurd (show (none : Option Nat) = some f from hg) (by simp)
  | 8, hg => exact absurd (show (none : Option Nat) = some f from hg) (by simp)
  | 9, hg => exact absurd (show (none : Option Nat) = some f from hg) (by simp)
  | 10, hg =>
    obtain rfl : f = 256 := (Option.some.inj (show some 256 = some f from hg)).symm
    rw [prog_256] at hA; cases hA
  | 11, hg => exact absurd (show (none : Option Nat) = some f from hg) (by simp)
  | 12, hg =>
    obtain rfl : f = 258 := (Option.some.inj (show some 258 = some f from hg)).symm
    rw [prog_258] at hA; cases hA
  | 13, hg =>
    obtain rfl : f = 259 := (Option.some.inj (show some 259 = some f from hg)).symm
    rw [prog_259] at hA; cases hA
  | 14, hg =>
    obtain rfl : f = 260 := (Option.some.inj (show some 260 = some f from hg)).symm
    rw [prog_260] at hA; cases hA
  | 15, hg =>
    obtain rfl : f = 262 := (Option.some.inj (show some 262 = some f from hg)).symm
    rw [prog_262] at hA; cases hA
  | 16, hg =>
    obtain rfl : f = 263 := (Option.some.inj (show some 263 = some f from hg)).symm
    rw [prog_263] at hA; cases hA
  | 17, hg =>
    obtain rfl : f = 265 := (Option.some.inj (show some 265 = some f from hg)).symm
    rw [prog_265] at hA; cases hA
  | 18, hg => exact absurd (show (none : Option Nat) = some f from hg) (by simp)
  | 19, hg =>
    obtain rfl : f = 267 := (Option.some.inj (show some 267 = some f from hg)).symm
    rw [prog_267] at hA; cases hA
  | 20, hg => exact absurd (show (none : Option Nat) = some f from hg) (by simp)
  | 21, hg =>
    obtain rfl : f = 199 := (Option.some.inj (show some 199 = some f from hg)).symm
    rw [prog_199] at hA; cases hA
  | 22, hg =>
    obtain rfl : f = 274 := (Option.some.inj (show some 274 = some f from hg)).symm
    rw [prog_274] at hA; cases hA
  | 23, hg =>
    obtain rfl : f = 275 := (Option.some.inj (show some 275 = some f from hg)).symm
    rw [prog_275] at hA; cases hA
  | 24, hg =>
    obtain rfl : f = 276 := (Option.some.inj (show some 276 = some f from hg)).symm
    rw [prog_276] at hA; cases hA
  | 25, hg =>
    obtain rfl : f = 277 := (Option.some.inj (show some 277 = some f from hg)).symm
    rw [prog_277] at hA; cases hA
  | 26, hg =>
    obtain rfl : f = 278 := (Option.some.inj (show some 278 = some f from hg)).symm
    rw [prog_278] at hA; cases hA
  | 27, hg =>
    obtain rfl : f = 209 := (Option.some.inj (show some 209 = some f from hg)).symm
    rw [prog_209] at hA; cases hA
  | 28, hg => exact absurd (show (none : Option Nat) = some f from hg) (by simp)
  | 29, hg => exact absurd (show (none : Option Nat) = some f from hg) (by simp)
  | 30, hg =>
    obtain rfl : f = 281 := (Option.some.inj (show some 281 = some f from hg)).symm
    rw [prog_281] at hA; cases hA
  | 31, hg => exact absurd (show (none : Option Nat) = some f from hg) (by simp)
  | 32, hg =>
    obtain rfl : f = 283 := (Option.some.inj (show some 283 = some f from hg)).symm
    rw [prog_283] at hA; cases hA
  | 33, hg =>
    obtain rfl : f = 285 := (Option.some.inj (show some 285 = some f from hg)).symm
    rw [prog_285] at hA; cases hA
  | 34, hg =>
    obtain rfl : f = 284 := (Option.some.inj (show some 284 = some f from hg)).symm
    rw [prog_284] at hA; cases hA
  | 35, hg =>
    obtain rfl : f = 286 := (Option.some.inj (show some 286 = some f from hg)).symm
    rw [prog_286] at hA; cases hA
  | 36, hg =>
    obtain rfl : f = 287 := (Option.some.inj (show some 287 = some f from hg)).symm
    rw [prog_287] at hA; cases hA
  | 37, hg =>
    obtain rfl : f = 288 := (Option.some.inj (show some 288 = some f from hg)).symm
    rw [prog_288] at hA; cases hA
  | 38, hg =>
    obtain rfl : f = 289 := (Option.some.inj (show some 289 = some f from hg)).symm
    rw [prog_289] at hA; cases hA
  | 39, hg =>
    obtain rfl : f = 290 := (Option.some.inj (show some 290 = some f from hg)).symm
    rw [prog_290] at hA; cases hA
  | 40, hg =>
    obtain rfl : f = 291 := (Option.some.inj (show some 291 = some f from hg)).symm
    rw [prog_291] at hA; cases hA
  | 41, hg =>
    obtain rfl : f = 292 := (Option.some.inj (show some 292 = some f from hg)).symm
    rw [prog_292] at hA; cases hA
  | 42, hg =>
    obtain rfl : f = 293 := (Option.some.inj (show some 293 = some f from hg)).symm
    rw [prog_293] at hA; cases hA
  | 43, hg =>
    obtain rfl : f = 295 := (Option.some.inj (show some 295 = some f from hg)).symm
    rw [prog_295] at hA; cases hA
  | 44, hg =>
    obtain rfl : f = 294 := (Option.some.inj (show some 294 = some f from hg)).symm
    rw [prog_294] at hA; cases hA
  | 45, hg =>
    obtain rfl : f = 296 := (Option.some.inj (show some 296 = some f from hg)).symm
    rw [prog_296] at hA; cases hA
  | 46, hg =>
    obtain rfl : f = 299 := (Option.some.inj (show some 299 = some f from hg)).symm
    rw [prog_299] at hA; cases hA
  | 47, hg =>
    obtain rfl : f = 297 := (Option.some.inj (show some 297 = some f from hg)).symm
    rw [prog_297] at hA; cases hA
  | 48, hg =>
    obtain rfl : f = 298 := (Option.some.inj (show some 298 = some f from hg)).symm
    rw [prog_298] at hA; cases hA
  | 49, hg =>
    obtain rfl : f = 300 := (Option.some.inj (show some 300 = some f from hg)).symm
    rw [prog_300] at hA; cases hA
  | 50, hg =>
    obtain rfl : f = 301 := (Option.some.inj (show some 301 = some f from hg)).symm
    rw [prog_301] at hA; cases hA
  | 51, hg =>
    obtain rfl : f = 302 := (Option.some.inj (show some 302 = some f from hg)).symm
    rw [prog_302] at hA; cases hA
  | 52, hg =>
    obtain rfl : f = 303 := (Option.some.inj (show some 303 = some f from hg)).symm
    rw [prog_303] at hA; cases hA
  | 53, hg => exact absurd (show (none : Option Nat) = some f from hg) (by simp)
  | 54, hg => exact absurd (show (none : Option Nat) = some f from hg) (by simp)
  | 55, hg =>
    obtain rfl : f = 128 := (Option.some.inj (show some 128 = some f from hg)).symm
    rw [prog_128] at hA; cases hA
  | 56, hg =>
    obtain rfl : f = 305 := (Option.some.inj (show some 305 = some f from hg)).symm
    rw [prog_305] at hA; cases hA
  | 57, hg =>
    obtain rfl : f = 115 := (Option.some.inj (show some 115 = some f from hg)).symm
    rw [prog_115] at hA; cases hA
  | 58, hg => exact absurd (show (none : Option Nat) = some f from hg) (by simp)
  | 59, hg =>
    obtain rfl : f = 306 := (Option.some.inj (show some 306 = some f from hg)).symm
    rw [prog_306] at hA; cases hA
  | 60, hg =>
    obtain rfl : f = 307 := (Option.some.inj (show some 307 = some f from hg)).symm
    rw [prog_307] at hA; cases hA
  | 61, hg =>
    obtain rfl : f = 308 := (Option.some.inj (show some 308 = some f from hg)).symm
    rw [prog_308] at hA; cases hA
  | 62, hg =>
    obtain rfl : f = 309 := (Option.some.inj (show some 309 = some f from hg)).symm
    rw [prog_309] at hA; cases hA
  | 63, hg =>
    obtain rfl : f = 310 := (Option.some.inj (show some 310 = some f from hg)).symm
    rw [prog_310] at hA; cases hA
  | 64, hg =>
    obtain rfl : f = 58 := (Option.some.inj (show some 58 = some f from hg)).symm
    rw [prog_58] at hA; cases hA
  | 65, hg =>
    obtain rfl : f = 59 := (Option.some.inj (show some 59 = some f from hg)).symm
    obtain rfl : p = pBuilderString := (AFn.primS.inj (Option.some.inj (prog_59.symm.trans hA))).symm
    exact primBuilderString (g := gm) Tryd.lays169 Tryd.Builder_Extra_169 rfl Tryd.func65 (by kernel_rfl) (by decide)
  | 66, hg =>
    obtain rfl : f = 57 := (Option.some.inj (show some 57 = some f from hg)).symm
    rw [prog_57] at hA; cases hA
  | 67, hg =>
    obtain rfl : f = 72 := (Option.some.inj (show some 72 = some f from hg)).symm
    rw [prog_72] at hA; cases hA
  | 68, hg =>
    obtain rfl : f = 311 := (Option.some.inj (show some 311 = some f from hg)).symm
    rw [prog_311] at hA; cases hA
  | 69, hg =>
    obtain rfl : f = 133 := (Option.some.inj (show some 133 = some f from hg)).symm
    rw [prog_133] at hA; cases hA
  | 70, hg =>
    obtain rfl : f = 312 := (Option.some.inj (show some 312 = some f from hg)).symm
    rw [prog_312] at hA; cases hA
  | 71, hg =>
    obtain rfl : f = 215 := (Option.some.inj (show some 215 = some f from hg)).symm
    rw [prog_215] at hA; cases hA
  | 72, hg =>
    obtain rfl : f = 313 := (Option.some.inj (show some 313 = some f from hg)).symm
    rw [prog_313] at hA; cases hA
  | 73, hg =>
    obtain rfl : f = 114 := (Option.some.inj (show some 114 = some f from hg)).symm
    rw [prog_114] at hA; cases hA
  | 74, hg =>
    obtain rfl : f = 111 := (Option.some.inj (show some 111 = some f from hg)).symm
    rw [prog_111] at hA; cases hA
  | 75, hg => exact absurd (show (none : Option Nat) = some f from hg) (by simp)
  | 76, hg =>
    obtain rfl : f = 135 := (Option.some.inj (show some 135 = some f from hg)).symm
    rw [prog_135] at hA; cases hA
  | 77, hg =>
    obtain rfl : f = 314 := (Option.some.inj (show some 314 = some f from hg)).symm
    rw [prog_314] at hA; cases hA
  | 78, hg => exact absurd (show (none : Option Nat) = some f from hg) (by simp)
  | 79, hg =>
    obtain rfl : f = 315 := (Option.some.inj (show some 315 = some f from hg)).symm
    rw [prog_315] at hA; cases hA
  | 80, hg =>
    obtain rfl : f = 73 := (Option.some.inj (show some 73 = some f from hg)).symm
    obtain rfl : p = pCopyCheck := (AFn.primS.inj (Option.some.inj (prog_73.symm.trans hA))).symm
    exact primCopyCheck (g := gm) Tryd.laysCC Tryd.Builder_X72_CC rfl Tryd.func80 (by kernel_rfl) (by decide)
  | 81, hg =>
    obtain rfl : f = 79 := (Option.some.inj (show some 79 = some f from hg)).symm
    rw [prog_79] at hA; cases hA
  | 82, hg => exact absurd (show (none : Option Nat) = some f from hg) (by simp)
  | 83, hg =>
    obtain rfl : f = 124 := (Option.some.inj (show some 124 = some f from hg)).symm
    rw [prog_124] at hA; cases hA
  | 84, hg =>
    obtain rfl : f = 125 := (Option.some.inj (show some 125 = some f from hg)).symm
    rw [prog_125] at hA; cases hA
  | 85, hg =>
    obtain rfl : f = 126 := (Option.some.inj (show some 126 = some f from hg)).symm
    rw [prog_126] at hA; cases hA
  | 86, hg =>
    obtain rfl : f = 127 := (Option.some.inj (show some 127 = some f from hg)).symm
    rw [prog_127] at hA; cases hA
  | 87, hg =>
    obtain rfl : f = 82 := (Option.some.inj (show some 82 = some f from hg)).symm
    rw [prog_82] at hA; cases hA
  | 88, hg => exact absurd (show (none : Option Nat) = some f from hg) (by simp)
  | 89, hg => exact absurd (show (none : Option Nat) = some f from hg) (by simp)
  | 90, hg => exact absurd (show (none : Option Nat) = some f from hg) (by simp)
  | 91, hg => exact absurd (show (none : Option Nat) = some f from hg) (by simp)
  | 92, hg => exact absurd (show (none : Option Nat) = some f from hg) (by simp)
  | 93, hg =>
    obtain rfl : f = 134 := (Option.some.inj (show some 134 = some f from hg)).symm
    rw [prog_134] at hA; cases hA
  | 94, hg =>
    obtain rfl : f = 78 := (Option.some.inj (show some 78 = some f from hg)).symm
    rw [prog_78] at hA; cases hA
  | n + 95, hg => exact absurd (show (none : Option Nat) = some f from hg) (by simp)
theorem linked : Linked Tryd.prog gm prog := ⟨code_ok, prim_ok, primS_ok, by kernel_rfl⟩
end Go.Ab.YteblngbleioncaaDoor
