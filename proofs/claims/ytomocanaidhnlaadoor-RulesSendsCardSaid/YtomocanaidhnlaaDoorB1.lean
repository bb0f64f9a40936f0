/-
  The abstract program belongs to this seat's program.
-/
import Derived.Test.YtomocanaidhnlaaDoorA3
import Derived.Test.YtomocanaidhnlaaDoorA5
import Derived.KernelRfl
import Derived.Test.YtomocanaidhnlaaDoorProg
import Derived.Test.YtomocanaidhnlaaDoorShelf
set_option linter.unusedVariables false
set_option linter.unusedSimpArgs false
namespace Go.Ab.YtomocanaidhnlaaDoor
open Go.Proofs Go.Shelf
set_option maxRecDepth 20000
def gfn : FuncId → Option Nat := fun f => match f with
  | 8 => some 191
  | 9 => some 174
  | 10 => some 175
  | 11 => some 176
  | 12 => some 177
  | 13 => some 178
  | 14 => some 179
  | 15 => some 180
  | 16 => some 182
  | 17 => some 185
  | 18 => some 188
  | 19 => some 189
  | 20 => some 190
  | 21 => some 192
  | 22 => some 193
  | 23 => some 194
  | 24 => some 195
  | 25 => some 196
  | 26 => some 197
  | 27 => some 198
  | 28 => some 199
  | 29 => some 200
  | 30 => some 201
  | 31 => some 202
  | 32 => some 203
  | 33 => some 204
  | 34 => some 205
  | 35 => some 206
  | 36 => some 207
  | 37 => some 208
  | 38 => some 209
  | 39 => some 210
  | 40 => some 211
  | 41 => some 212
  | 42 => some 115
  | 43 => some 113
  | 44 => some 214
  | 45 => some 53
  | 46 => some 56
  | 47 => some 74
  | 48 => some 213
  | 49 => some 114
  | 50 => some 128
  | 51 => some 111
  | 52 => some 69
  | 53 => some 80
  | 54 => some 215
  | 55 => some 216
  | 56 => some 135
  | 57 => some 124
  | 58 => some 125
  | 59 => some 126
  | 60 => some 127
  | 61 => some 77
  | 62 => some 75
  | 63 => some 217
  | 64 => some 218
  | 65 => some 82
  | 66 => some 133
  | 67 => some 134
  | 68 => some 78
  | 69 => some 83
  | 70 => some 81
  | 71 => some 219
  | 72 => some 220
  | 78 => some 85
  | _ => none
def gm : GMap := { fn := gfn, tB := 0, tU := 5, inv := fun κ => ∃ m, κ.C (Tryd.laysM219_ren.g 1) 0 = some (.int .i64 m), mono := fun _ _ h ⟨m, hm⟩ => ⟨m, h _ _ _ hm⟩, glob := fun _ => none, globOK := fun _ _ _ _ h => by cases h }
theorem chk8 : chkFn Tryd.prog gm Tryd.f8 F_posthornlaw14_RulesSends = true := by kernel_rfl
theorem chk9 : chkFn Tryd.prog gm Tryd.f9 F_posthornlaw13_Great = true := by kernel_rfl
theorem chk10 : chkFn Tryd.prog gm Tryd.f10 F_posthornlaw14_alive = true := by kernel_rfl
theorem chk11 : chkFn Tryd.prog gm Tryd.f11 F_rules_Methods = true := by kernel_rfl
theorem chk12 : chkFn Tryd.prog gm Tryd.f12 F_posthornref14_Role = true := by kernel_rfl
theorem chk13 : chkFn Tryd.prog gm Tryd.f13 F_rules_Check = true := by kernel_rfl
theorem chk14 : chkFn Tryd.prog gm Tryd.f14 F_posthornref14_Check = true := by kernel_rfl
theorem chk15 : chkFn Tryd.prog gm Tryd.f15 F_rules_Role = true := by kernel_rfl
theorem chk16 : chkFn Tryd.prog gm Tryd.f16 F_rules_Newer = true := by kernel_rfl
theorem chk17 : chkFn Tryd.prog gm Tryd.f17 F_rules_Sender = true := by kernel_rfl
theorem chk18 : chkFn Tryd.prog gm Tryd.f18 F_posthornref14_Sender = true := by kernel_rfl
theorem chk19 : chkFn Tryd.prog gm Tryd.f19 F_rules_Of = true := by kernel_rfl
theorem chk20 : chkFn Tryd.prog gm Tryd.f20 F_posthornref14_Newer = true := by kernel_rfl
theorem chk21 : chkFn Tryd.prog gm Tryd.f21 F_posthornlaw13_Message = true := by kernel_rfl
theorem chk22 : chkFn Tryd.prog gm Tryd.f22 F_rules_needs = true := by kernel_rfl
theorem chk23 : chkFn Tryd.prog gm Tryd.f23 F_event_Right = true := by kernel_rfl
theorem chk24 : chkFn Tryd.prog gm Tryd.f24 F_posthornref13_Right = true := by kernel_rfl
theorem chk25 : chkFn Tryd.prog gm Tryd.f25 F_posthornref14_few = true := by kernel_rfl
theorem chk26 : chkFn Tryd.prog gm Tryd.f26 F_posthornref14_many = true := by kernel_rfl
theorem chk27 : chkFn Tryd.prog gm Tryd.f27 F_posthornref14_timeless = true := by kernel_rfl
theorem chk28 : chkFn Tryd.prog gm Tryd.f28 F_when_Right = true := by kernel_rfl
theorem chk29 : chkFn Tryd.prog gm Tryd.f29 F_event_optional = true := by kernel_rfl
theorem chk30 : chkFn Tryd.prog gm Tryd.f30 F_event_isMethod = true := by kernel_rfl
theorem chk31 : chkFn Tryd.prog gm Tryd.f31 F_event_isUID = true := by kernel_rfl
theorem chk32 : chkFn Tryd.prog gm Tryd.f32 F_event_isPerson = true := by kernel_rfl
theorem chk33 : chkFn Tryd.prog gm Tryd.f33 F_event_people = true := by kernel_rfl
theorem chk34 : chkFn Tryd.prog gm Tryd.f34 F_event_isNote = true := by kernel_rfl
theorem chk35 : chkFn Tryd.prog gm Tryd.f35 F_posthornref13_method = true := by kernel_rfl
theorem chk36 : chkFn Tryd.prog gm Tryd.f36 F_posthornref13_uid = true := by kernel_rfl
theorem chk37 : chkFn Tryd.prog gm Tryd.f37 F_posthornref13_note = true := by kernel_rfl
theorem chk38 : chkFn Tryd.prog gm Tryd.f38 F_posthornref12_Time = true := by kernel_rfl
theorem chk39 : chkFn Tryd.prog gm Tryd.f39 F_posthornref13_optional = true := by kernel_rfl
theorem chk40 : chkFn Tryd.prog gm Tryd.f40 F_posthornref13_IsPerson = true := by kernel_rfl
theorem chk41 : chkFn Tryd.prog gm Tryd.f41 F_posthornref13_Answer = true := by kernel_rfl
theorem chk42 : chkFn Tryd.prog gm Tryd.f42 F_addr_Plain = true := by kernel_rfl
theorem chk43 : chkFn Tryd.prog gm Tryd.f43 F_addr_Normal = true := by kernel_rfl
theorem chk44 : chkFn Tryd.prog gm Tryd.f44 F_event_isAnswer = true := by kernel_rfl
theorem chk45 : chkFn Tryd.prog gm Tryd.f45 F_utf_Valid = true := by kernel_rfl
theorem chk46 : chkFn Tryd.prog gm Tryd.f46 F_posthornref04_Has = true := by kernel_rfl
theorem chk47 : chkFn Tryd.prog gm Tryd.f47 F_posthornref02_Valid = true := by kernel_rfl
theorem chk48 : chkFn Tryd.prog gm Tryd.f48 F_posthornref07_Plain = true := by kernel_rfl
theorem chk49 : chkFn Tryd.prog gm Tryd.f49 F_posthornref04_Lower = true := by kernel_rfl
theorem chk50 : chkFn Tryd.prog gm Tryd.f50 F_strings_Cut = true := by kernel_rfl
theorem chk51 : chkFn Tryd.prog gm Tryd.f51 F_addr_Right = true := by kernel_rfl
theorem chk52 : chkFn Tryd.prog gm Tryd.f52 F_utf_Points = true := by kernel_rfl
theorem chk53 : chkFn Tryd.prog gm Tryd.f53 F_posthornref02_Points = true := by kernel_rfl
theorem chk54 : chkFn Tryd.prog gm Tryd.f54 F_posthornref04_Parts = true := by kernel_rfl
theorem chk55 : chkFn Tryd.prog gm Tryd.f55 F_posthornref07_Right = true := by kernel_rfl
theorem chk56 : chkFn Tryd.prog gm Tryd.f56 F_internal_stringslite_Cut = true := by kernel_rfl
theorem chk57 : chkFn Tryd.prog gm Tryd.f57 F_addr_parts = true := by kernel_rfl
theorem chk58 : chkFn Tryd.prog gm Tryd.f58 F_addr_isAtom = true := by kernel_rfl
theorem chk59 : chkFn Tryd.prog gm Tryd.f59 F_addr_isLabel = true := by kernel_rfl
theorem chk60 : chkFn Tryd.prog gm Tryd.f60 F_addr_isName = true := by kernel_rfl
theorem chk61 : chkFn Tryd.prog gm Tryd.f61 F_utf_Next = true := by kernel_rfl
theorem chk62 : chkFn Tryd.prog gm Tryd.f62 F_posthornref02_Next = true := by kernel_rfl
theorem chk63 : chkFn Tryd.prog gm Tryd.f63 F_posthornref07_atoms = true := by kernel_rfl
theorem chk64 : chkFn Tryd.prog gm Tryd.f64 F_posthornref07_Domain = true := by kernel_rfl
theorem chk67 : chkFn Tryd.prog gm Tryd.f67 F_addr_alnum = true := by kernel_rfl
theorem chk69 : chkFn Tryd.prog gm Tryd.f69 F_utf_isPoint = true := by kernel_rfl
theorem chk70 : chkFn Tryd.prog gm Tryd.f70 F_posthornref02_Put = true := by kernel_rfl
theorem chk71 : chkFn Tryd.prog gm Tryd.f71 F_posthornref07_Atom = true := by kernel_rfl
theorem chk72 : chkFn Tryd.prog gm Tryd.f72 F_posthornref07_Letter = true := by kernel_rfl
theorem chk78 : chkFn Tryd.prog gm Tryd.f78 F_posthornref02_Point = true := by kernel_rfl
set_option maxRecDepth 100000 in
theorem code_ok : ∀ (f' : FuncId) (f : Nat) (fn : ACFn), gm f' = some f → prog f = some (.code fn) → ∃ pf, Tryd.prog.funcs[f']? = some pf ∧ chkFn Tryd.prog gm pf fn = true := by
  intro f' f fn hg hA
  match f', hg with
  | 0, hg => exact absurd (show (none : Option Nat) = some f from hg) (by simp)
  | 1, hg => exact absurd (show (none : Option Nat) = some f from hg) (by simp)
  | 2, hg => exact absurd (show (none : Option Nat) = some f from hg) (by simp)
  | 3, hg => exact absurd (show (none : Option Nat) = some f from hg) (by simp)
  | 4, hg => exact absurd (show (none : Option Nat) = some f from hg) (by simp)
  | 5, hg => exact absurd (show (none : Option Nat) = some f from hg) (by simp)
  | 6, hg => exact absurd (show (none : Option Nat) = some f from hg) (by simp)
  | 7, hg => exact absurd (show (none : Option Nat) = some f from hg) (by simp)
  | 8, hg =>
    obtain rfl : f = 191 := (Option.some.inj (show some 191 = some f from hg)).symm
    obtain rfl : fn = F_posthornlaw14_RulesSends := (AFn.code.inj (Option.some.inj (prog_191.symm.trans hA))).symm
    exact ⟨_, Tryd.func8, chk8⟩
  | 9, hg =>
    obtain rfl : f = 174 := (Option.some.inj (show some 174 = some f from hg)).symm
    obtain rfl : fn = F_posthornlaw13_Great := (AFn.code.inj (Option.some.inj (prog_174.symm.trans hA))).symm
    exact ⟨_, Tryd.func9, chk9⟩
  | 10, hg =>
    obtain rfl : f = 175 := (Option.some.inj (show some 175 = some f from hg)).symm
    obtain rfl : fn = F_posthornlaw14_alive := (AFn.code.inj (Option.some.inj (prog_175.symm.trans hA))).symm
    exact ⟨_, Tryd.func10, chk10⟩
  | 11, hg =>
    obtain rfl : f = 176 := (Option.some.inj (show some 176 = some f from hg)).symm
    obtain rfl : fn = F_rules_Methods := (AFn.code.inj (Option.some.inj (prog_176.symm.trans hA))).symm
    exact ⟨_, Tryd.func11, chk11⟩
  | 12, hg =>
    obtain rfl : f = 177 := (Option.some.inj (show some 177 = some f from hg)).symm
    obtain rfl : fn = F_posthornref14_Role := (AFn.code.inj (Option.some.inj (prog_177.symm.trans hA))).symm
    exact ⟨_, Tryd.func12, chk12⟩
  | 13, hg =>
    obtain rfl : f = 178 := (Option.some.inj (show some 178 = some f from hg)).symm
    obtain rfl : fn = F_rules_Check := (AFn.code.inj (Option.some.inj (prog_178.symm.trans hA))).symm
    exact ⟨_, Tryd.func13, chk13⟩
  | 14, hg =>
    obtain rfl : f = 179 := (Option.some.inj (show some 179 = some f from hg)).symm
    obtain rfl : fn = F_posthornref14_Check := (AFn.code.inj (Option.some.inj (prog_179.symm.trans hA))).symm
    exact ⟨_, Tryd.func14, chk14⟩
  | 15, hg =>
    obtain rfl : f = 180 := (Option.some.inj (show some 180 = some f from hg)).symm
    obtain rfl : fn = F_rules_Role := (AFn.code.inj (Option.some.inj (prog_180.symm.trans hA))).symm
    exact ⟨_, Tryd.func15, chk15⟩
  | 16, hg =>
    obtain rfl : f = 182 := (Option.some.inj (show some 182 = some f from hg)).symm
    obtain rfl : fn = F_rules_Newer := (AFn.code.inj (Option.some.inj (prog_182.symm.trans hA))).symm
    exact ⟨_, Tryd.func16, chk16⟩
  | 17, hg =>
    obtain rfl : f = 185 := (Option.some.inj (show some 185 = some f from hg)).symm
    obtain rfl : fn = F_rules_Sender := (AFn.code.inj (Option.some.inj (prog_185.symm.trans hA))).symm
    exact ⟨_, Tryd.func17, chk17⟩
  | 18, hg =>
    obtain rfl : f = 188 := (Option.some.inj (show some 188 = some f from hg)).symm
    obtain rfl : fn = F_posthornref14_Sender := (AFn.code.inj (Option.some.inj (prog_188.symm.trans hA))).symm
    exact ⟨_, Tryd.func18, chk18⟩
  | 19, hg =>
    obtain rfl : f = 189 := (Option.some.inj (show some 189 = some f from hg)).symm
    obtain rfl : fn = F_rules_Of := (AFn.code.inj (Option.some.inj (prog_189.symm.trans hA))).symm
    exact ⟨_, Tryd.func19, chk19⟩
  | 20, hg =>
    obtain rfl : f = 190 := (Option.some.inj (show some 190 = some f from hg)).symm
    obtain rfl : fn = F_posthornref14_Newer := (AFn.code.inj (Option.some.inj (prog_190.symm.trans hA))).symm
    exact ⟨_, Tryd.func20, chk20⟩
  | 21, hg =>
    obtain rfl : f = 192 := (Option.some.inj (show some 192 = some f from hg)).symm
    obtain rfl : fn = F_posthornlaw13_Message := (AFn.code.inj (Option.some.inj (prog_192.symm.trans hA))).symm
    exact ⟨_, Tryd.func21, chk21⟩
  | 22, hg =>
    obtain rfl : f = 193 := (Option.some.inj (show some 193 = some f from hg)).symm
    obtain rfl : fn = F_rules_needs := (AFn.code.inj (Option.some.inj (prog_193.symm.trans hA))).symm
    exact ⟨_, Tryd.func22, chk22⟩
  | 23, hg =>
    obtain rfl : f = 194 := (Option.some.inj (show some 194 = some f from hg)).symm
    obtain rfl : fn = F_event_Right := (AFn.code.inj (Option.some.inj (prog_194.symm.trans hA))).symm
    exact ⟨_, Tryd.func23, chk23⟩
  | 24, hg =>
    obtain rfl : f = 195 := (Option.some.inj (show some 195 = some f from hg)).symm
    obtain rfl : fn = F_posthornref13_Right := (AFn.code.inj (Option.some.inj (prog_195.symm.trans hA))).symm
    exact ⟨_, Tryd.func24, chk24⟩
  | 25, hg =>
    obtain rfl : f = 196 := (Option.some.inj (show some 196 = some f from hg)).symm
    obtain rfl : fn = F_posthornref14_few := (AFn.code.inj (Option.some.inj (prog_196.symm.trans hA))).symm
    exact ⟨_, Tryd.func25, chk25⟩
  | 26, hg =>
    obtain rfl : f = 197 := (Option.some.inj (show some 197 = some f from hg)).symm
    obtain rfl : fn = F_posthornref14_many := (AFn.code.inj (Option.some.inj (prog_197.symm.trans hA))).symm
    exact ⟨_, Tryd.func26, chk26⟩
  | 27, hg =>
    obtain rfl : f = 198 := (Option.some.inj (show some 198 = some f from hg)).symm
    obtain rfl : fn = F_posthornref14_timeless := (AFn.code.inj (Option.some.inj (prog_198.symm.trans hA))).symm
    exact ⟨_, Tryd.func27, chk27⟩
  | 28, hg =>
    obtain rfl : f = 199 := (Option.some.inj (show some 199 = some f from hg)).symm
    obtain rfl : fn = F_when_Right := (AFn.code.inj (Option.some.inj (prog_199.symm.trans hA))).symm
    exact ⟨_, Tryd.func28, chk28⟩
  | 29, hg =>
    obtain rfl : f = 200 := (Option.some.inj (show some 200 = some f from hg)).symm
    obtain rfl : fn = F_event_optional := (AFn.code.inj (Option.some.inj (prog_200.symm.trans hA))).symm
    exact ⟨_, Tryd.func29, chk29⟩
  | 30, hg =>
    obtain rfl : f = 201 := (Option.some.inj (show some 201 = some f from hg)).symm
    obtain rfl : fn = F_event_isMethod := (AFn.code.inj (Option.some.inj (prog_201.symm.trans hA))).symm
    exact ⟨_, Tryd.func30, chk30⟩
  | 31, hg =>
    obtain rfl : f = 202 := (Option.some.inj (show some 202 = some f from hg)).symm
    obtain rfl : fn = F_event_isUID := (AFn.code.inj (Option.some.inj (prog_202.symm.trans hA))).symm
    exact ⟨_, Tryd.func31, chk31⟩
  | 32, hg =>
    obtain rfl : f = 203 := (Option.some.inj (show some 203 = some f from hg)).symm
    obtain rfl : fn = F_event_isPerson := (AFn.code.inj (Option.some.inj (prog_203.symm.trans hA))).symm
    exact ⟨_, Tryd.func32, chk32⟩
  | 33, hg =>
    obtain rfl : f = 204 := (Option.some.inj (show some 204 = some f from hg)).symm
    obtain rfl : fn = F_event_people := (AFn.code.inj (Option.some.inj (prog_204.symm.trans hA))).symm
    exact ⟨_, Tryd.func33, chk33⟩
  | 34, hg =>
    obtain rfl : f = 205 := (Option.some.inj (show some 205 = some f from hg)).symm
    obtain rfl : fn = F_event_isNote := (AFn.code.inj (Option.some.inj (prog_205.symm.trans hA))).symm
    exact ⟨_, Tryd.func34, chk34⟩
  | 35, hg =>
    obtain rfl : f = 206 := (Option.some.inj (show some 206 = some f from hg)).symm
    obtain rfl : fn = F_posthornref13_method := (AFn.code.inj (Option.some.inj (prog_206.symm.trans hA))).symm
    exact ⟨_, Tryd.func35, chk35⟩
  | 36, hg =>
    obtain rfl : f = 207 := (Option.some.inj (show some 207 = some f from hg)).symm
    obtain rfl : fn = F_posthornref13_uid := (AFn.code.inj (Option.some.inj (prog_207.symm.trans hA))).symm
    exact ⟨_, Tryd.func36, chk36⟩
  | 37, hg =>
    obtain rfl : f = 208 := (Option.some.inj (show some 208 = some f from hg)).symm
    obtain rfl : fn = F_posthornref13_note := (AFn.code.inj (Option.some.inj (prog_208.symm.trans hA))).symm
    exact ⟨_, Tryd.func37, chk37⟩
  | 38, hg =>
    obtain rfl : f = 209 := (Option.some.inj (show some 209 = some f from hg)).symm
    obtain rfl : fn = F_posthornref12_Time := (AFn.code.inj (Option.some.inj (prog_209.symm.trans hA))).symm
    exact ⟨_, Tryd.func38, chk38⟩
  | 39, hg =>
    obtain rfl : f = 210 := (Option.some.inj (show some 210 = some f from hg)).symm
    obtain rfl : fn = F_posthornref13_optional := (AFn.code.inj (Option.some.inj (prog_210.symm.trans hA))).symm
    exact ⟨_, Tryd.func39, chk39⟩
  | 40, hg =>
    obtain rfl : f = 211 := (Option.some.inj (show some 211 = some f from hg)).symm
    obtain rfl : fn = F_posthornref13_IsPerson := (AFn.code.inj (Option.some.inj (prog_211.symm.trans hA))).symm
    exact ⟨_, Tryd.func40, chk40⟩
  | 41, hg =>
    obtain rfl : f = 212 := (Option.some.inj (show some 212 = some f from hg)).symm
    obtain rfl : fn = F_posthornref13_Answer := (AFn.code.inj (Option.some.inj (prog_212.symm.trans hA))).symm
    exact ⟨_, Tryd.func41, chk41⟩
  | 42, hg =>
    obtain rfl : f = 115 := (Option.some.inj (show some 115 = some f from hg)).symm
    obtain rfl : fn = F_addr_Plain := (AFn.code.inj (Option.some.inj (prog_115.symm.trans hA))).symm
    exact ⟨_, Tryd.func42, chk42⟩
  | 43, hg =>
    obtain rfl : f = 113 := (Option.some.inj (show some 113 = some f from hg)).symm
    obtain rfl : fn = F_addr_Normal := (AFn.code.inj (Option.some.inj (prog_113.symm.trans hA))).symm
    exact ⟨_, Tryd.func43, chk43⟩
  | 44, hg =>
    obtain rfl : f = 214 := (Option.some.inj (show some 214 = some f from hg)).symm
    obtain rfl : fn = F_event_isAnswer := (AFn.code.inj (Option.some.inj (prog_214.symm.trans hA))).symm
    exact ⟨_, Tryd.func44, chk44⟩
  | 45, hg =>
    obtain rfl : f = 53 := (Option.some.inj (show some 53 = some f from hg)).symm
    obtain rfl : fn = F_utf_Valid := (AFn.code.inj (Option.some.inj (prog_53.symm.trans hA))).symm
    exact ⟨_, Tryd.func45, chk45⟩
  | 46, hg =>
    obtain rfl : f = 56 := (Option.some.inj (show some 56 = some f from hg)).symm
    obtain rfl : fn = F_posthornref04_Has := (AFn.code.inj (Option.some.inj (prog_56.symm.trans hA))).symm
    exact ⟨_, Tryd.func46, chk46⟩
  | 47, hg =>
    obtain rfl : f = 74 := (Option.some.inj (show some 74 = some f from hg)).symm
    obtain rfl : fn = F_posthornref02_Valid := (AFn.code.inj (Option.some.inj (prog_74.symm.trans hA))).symm
    exact ⟨_, Tryd.func47, chk47⟩
  | 48, hg =>
    obtain rfl : f = 213 := (Option.some.inj (show some 213 = some f from hg)).symm
    obtain rfl : fn = F_posthornref07_Plain := (AFn.code.inj (Option.some.inj (prog_213.symm.trans hA))).symm
    exact ⟨_, Tryd.func48, chk48⟩
  | 49, hg =>
    obtain rfl : f = 114 := (Option.some.inj (show some 114 = some f from hg)).symm
    obtain rfl : fn = F_posthornref04_Lower := (AFn.code.inj (Option.some.inj (prog_114.symm.trans hA))).symm
    exact ⟨_, Tryd.func49, chk49⟩
  | 50, hg =>
    obtain rfl : f = 128 := (Option.some.inj (show some 128 = some f from hg)).symm
    obtain rfl : fn = F_strings_Cut := (AFn.code.inj (Option.some.inj (prog_128.symm.trans hA))).symm
    exact ⟨_, Tryd.func50, chk50⟩
  | 51, hg =>
    obtain rfl : f = 111 := (Option.some.inj (show some 111 = some f from hg)).symm
    obtain rfl : fn = F_addr_Right := (AFn.code.inj (Option.some.inj (prog_111.symm.trans hA))).symm
    exact ⟨_, Tryd.func51, chk51⟩
  | 52, hg =>
    obtain rfl : f = 69 := (Option.some.inj (show some 69 = some f from hg)).symm
    obtain rfl : fn = F_utf_Points := (AFn.code.inj (Option.some.inj (prog_69.symm.trans hA))).symm
    exact ⟨_, Tryd.func52, chk52⟩
  | 53, hg =>
    obtain rfl : f = 80 := (Option.some.inj (show some 80 = some f from hg)).symm
    obtain rfl : fn = F_posthornref02_Points := (AFn.code.inj (Option.some.inj (prog_80.symm.trans hA))).symm
    exact ⟨_, Tryd.func53, chk53⟩
  | 54, hg =>
    obtain rfl : f = 215 := (Option.some.inj (show some 215 = some f from hg)).symm
    obtain rfl : fn = F_posthornref04_Parts := (AFn.code.inj (Option.some.inj (prog_215.symm.trans hA))).symm
    exact ⟨_, Tryd.func54, chk54⟩
  | 55, hg =>
    obtain rfl : f = 216 := (Option.some.inj (show some 216 = some f from hg)).symm
    obtain rfl : fn = F_posthornref07_Right := (AFn.code.inj (Option.some.inj (prog_216.symm.trans hA))).symm
    exact ⟨_, Tryd.func55, chk55⟩
  | 56, hg =>
    obtain rfl : f = 135 := (Option.some.inj (show some 135 = some f from hg)).symm
    obtain rfl : fn = F_internal_stringslite_Cut := (AFn.code.inj (Option.some.inj (prog_135.symm.trans hA))).symm
    exact ⟨_, Tryd.func56, chk56⟩
  | 57, hg =>
    obtain rfl : f = 124 := (Option.some.inj (show some 124 = some f from hg)).symm
    obtain rfl : fn = F_addr_parts := (AFn.code.inj (Option.some.inj (prog_124.symm.trans hA))).symm
    exact ⟨_, Tryd.func57, chk57⟩
  | 58, hg =>
    obtain rfl : f = 125 := (Option.some.inj (show some 125 = some f from hg)).symm
    obtain rfl : fn = F_addr_isAtom := (AFn.code.inj (Option.some.inj (prog_125.symm.trans hA))).symm
    exact ⟨_, Tryd.func58, chk58⟩
  | 59, hg =>
    obtain rfl : f = 126 := (Option.some.inj (show some 126 = some f from hg)).symm
    obtain rfl : fn = F_addr_isLabel := (AFn.code.inj (Option.some.inj (prog_126.symm.trans hA))).symm
    exact ⟨_, Tryd.func59, chk59⟩
  | 60, hg =>
    obtain rfl : f = 127 := (Option.some.inj (show some 127 = some f from hg)).symm
    obtain rfl : fn = F_addr_isName := (AFn.code.inj (Option.some.inj (prog_127.symm.trans hA))).symm
    exact ⟨_, Tryd.func60, chk60⟩
  | 61, hg =>
    obtain rfl : f = 77 := (Option.some.inj (show some 77 = some f from hg)).symm
    obtain rfl : fn = F_utf_Next := (AFn.code.inj (Option.some.inj (prog_77.symm.trans hA))).symm
    exact ⟨_, Tryd.func61, chk61⟩
  | 62, hg =>
    obtain rfl : f = 75 := (Option.some.inj (show some 75 = some f from hg)).symm
    obtain rfl : fn = F_posthornref02_Next := (AFn.code.inj (Option.some.inj (prog_75.symm.trans hA))).symm
    exact ⟨_, Tryd.func62, chk62⟩
  | 63, hg =>
    obtain rfl : f = 217 := (Option.some.inj (show some 217 = some f from hg)).symm
    obtain rfl : fn = F_posthornref07_atoms := (AFn.code.inj (Option.some.inj (prog_217.symm.trans hA))).symm
    exact ⟨_, Tryd.func63, chk63⟩
  | 64, hg =>
    obtain rfl : f = 218 := (Option.some.inj (show some 218 = some f from hg)).symm
    obtain rfl : fn = F_posthornref07_Domain := (AFn.code.inj (Option.some.inj (prog_218.symm.trans hA))).symm
    exact ⟨_, Tryd.func64, chk64⟩
  | 65, hg =>
    obtain rfl : f = 82 := (Option.some.inj (show some 82 = some f from hg)).symm
    rw [prog_82] at hA; cases hA
  | 66, hg =>
    obtain rfl : f = 133 := (Option.some.inj (show some 133 = some f from hg)).symm
    rw [prog_133] at hA; cases hA
  | 67, hg =>
    obtain rfl : f = 134 := (Option.some.inj (show some 134 = some f from hg)).symm
    obtain rfl : fn = F_addr_alnum := (AFn.code.inj (Option.some.inj (prog_134.symm.trans hA))).symm
    exact ⟨_, Tryd.func67, chk67⟩
  | 68, hg =>
    obtain rfl : f = 78 := (Option.some.inj (show some 78 = some f from hg)).symm
    rw [prog_78] at hA; cases hA
  | 69, hg =>
    obtain rfl : f = 83 := (Option.some.inj (show some 83 = some f from hg)).symm
    obtain rfl : fn = F_utf_isPoint := (AFn.code.inj (Option.some.inj (prog_83.symm.trans hA))).symm
    exact ⟨_, Tryd.func69, chk69⟩
  | 70, hg =>
    obtain rfl : f = 81 := (Option.some.inj (show some 81 = some f from hg)).symm
    obtain rfl : fn = F_posthornref02_Put := (AFn.code.inj (Option.some.inj (prog_81.symm.trans hA))).symm
    exact ⟨_, Tryd.func70, chk70⟩
  | 71, hg =>
    obtain rfl : f = 219 := (Option.some.inj (show some 219 = some f from hg)).symm
    obtain rfl : fn = F_posthornref07_Atom := (AFn.code.inj (Option.some.inj (prog_219.symm.trans hA))).symm
    exact ⟨_, Tryd.func71, chk71⟩
  | 72, hg =>
    obtain rfl : f = 220 := (Option.some.inj (show some 220 = some f from hg)).symm
    obtain rfl : fn = F_posthornref07_Letter := (AFn.code.inj (Option.some.inj (prog_220.symm.trans hA))).symm
    exact ⟨_, Tryd.func72, chk72⟩
  | 73, hg => exact absurd (show (none : Option Nat) = some f from hg) (by simp)
  | 74, hg => exact absurd (show (none : Option Nat) = some f from hg) (by simp)
  | 75, hg => exact absurd (show (none : Option Nat) = some f from hg) (by simp)
  | 76, hg => exact absurd (show (none : Option Nat) = some f from hg) (by simp)
  | 77, hg => exact absurd (show (none : Option Nat) = some f from hg) (by simp)
  | 78, hg =>
    obtain rfl : f = 85 := (Option.some.inj (show some 85 = some f from hg)).symm
    obtain rfl : fn = F_posthornref02_Point := (AFn.code.inj (Option.some.inj (prog_85.symm.trans hA))).symm
    exact ⟨_, Tryd.func78, chk78⟩
  | n + 79, hg => exact absurd (show (none : Option Nat) = some f from hg) (by simp)
set_option maxRecDepth 100000 in
theorem prim_ok : ∀ (f' : FuncId) (f : Nat) (p : List PV → Option PV), gm f' = some f → prog f = some (.prim p) → PrimOK Tryd.prog gm f' p := by
  intro f' f p hg hA
  match f', hg with
  | 0, hg => exact absurd (show (none : Option Nat) = some f from hg) (by simp)
  | 1, hg => exact absurd (show (none : Option Nat) = some f from hg) (by simp)
  | 2, hg => exact absurd (show (none : Option Nat) = some f from hg) (by simp)
  | 3, hg => exact absurd (show (none : Option Nat) = some f from hg) (by simp)
  | 4, hg => exact absurd (show (none : Option Nat) = some f from hg) (by simp)
  | 5, hg => exact absurd (show (none : Option Nat) = some f from hg) (by simp)
  | 6, hg => exact absurd (show (none : Option Nat) = some f from hg) (by simp)
  | 7, hg => exact absurd (show (none : Option Nat) = some f from hg) (by simp)
  | 8, hg =>
    obtain rfl : f = 191 := (Option.some.inj (show some 191 = some f from hg)).symm
    rw [prog_191] at hA; cases hA
  | 9, hg =>
    obtain rfl : f = 174 := (Option.some.inj (show some 174 = some f from hg)).symm
    rw [prog_174] at hA; cases hA
  | 10, hg =>
    obtain rfl : f = 175 := (Option.some.inj (show some 175 = some f from hg)).symm
    rw [prog_175] at hA; cases hA
  | 11, hg =>
    obtain rfl : f = 176 := (Option.some.inj (show some 176 = some f from hg)).symm
    rw [prog_176] at hA; cases hA
  | 12, hg =>
    obtain rfl : f = 177 := (Option.some.inj (show some 177 = some f from hg)).symm
    rw [prog_177] at hA; cases hA
  | 13, hg =>
    obtain rfl : f = 178 := (Option.some.inj (show some 178 = some f from hg)).symm
    rw [prog_178] at hA; cases hA
  | 14, hg =>
    obtain rfl : f = 179 := (Option.some.inj (show some 179 = some f from hg)).symm
    rw [prog_179] at hA; cases hA
  | 15, hg =>
    obtain rfl : f = 180 := (Option.some.inj (show some 180 = some f from hg)).symm
    rw [prog_180] at hA; cases hA
  | 16, hg =>
    obtain rfl : f = 182 := (Option.some.inj (show some 182 = some f from hg)).symm
    rw [prog_182] at hA; cases hA
  | 17, hg =>
    obtain rfl : f = 185 := (Option.some.inj (show some 185 = some f from hg)).symm
    rw [prog_185] at hA; cases hA
  | 18, hg =>
    obtain rfl : f = 188 := (Option.some.inj (show some 188 = some f from hg)).symm
    rw [prog_188] at hA; cases hA
  | 19, hg =>
    obtain rfl : f = 189 := (Option.some.inj (show some 189 = some f from hg)).symm
    rw [prog_189] at hA; cases hA
  | 20, hg =>
    obtain rfl : f = 190 := (Option.some.inj (show some 190 = some f from hg)).symm
    rw [prog_190] at hA; cases hA
  | 21, hg =>
    obtain rfl : f = 192 := (Option.some.inj (show some 192 = some f from hg)).symm
    rw [prog_192] at hA; cases hA
  | 22, hg =>
    obtain rfl : f = 193 := (Option.some.inj (show some 193 = some f from hg)).symm
    rw [prog_193] at hA; cases hA
  | 23, hg =>
    obtain rfl : f = 194 := (Option.some.inj (show some 194 = some f from hg)).symm
    rw [prog_194] at hA; cases hA
  | 24, hg =>
    obtain rfl : f = 195 := (Option.some.inj (show some 195 = some f from hg)).symm
    rw [prog_195] at hA; cases hA
  | 25, hg =>
    obtain rfl : f = 196 := (Option.some.inj (show some 196 = some f from hg)).symm
    rw [prog_196] at hA; cases hA
  | 26, hg =>
    obtain rfl : f = 197 := (Option.some.inj (show some 197 = some f from hg)).symm
    rw [prog_197] at hA; cases hA
  | 27, hg =>
    obtain rfl : f = 198 := (Option.some.inj (show some 198 = some f from hg)).symm
    rw [prog_198] at hA; cases hA
  | 28, hg =>
    obtain rfl : f = 199 := (Option.some.inj (show some 199 = some f from hg)).symm
    rw [prog_199] at hA; cases hA
  | 29, hg =>
    obtain rfl : f = 200 := (Option.some.inj (show some 200 = some f from hg)).symm
    rw [prog_200] at hA; cases hA
  | 30, hg =>
    obtain rfl : f = 201 := (Option.some.inj (show some 201 = some f from hg)).symm
    rw [prog_201] at hA; cases hA
  | 31, hg =>
    obtain rfl : f = 202 := (Option.some.inj (show some 202 = some f from hg)).symm
    rw [prog_202] at hA; cases hA
  | 32, hg =>
    obtain rfl : f = 203 := (Option.some.inj (show some 203 = some f from hg)).symm
    rw [prog_203] at hA; cases hA
  | 33, hg =>
    obtain rfl : f = 204 := (Option.some.inj (show some 204 = some f from hg)).symm
    rw [prog_204] at hA; cases hA
  | 34, hg =>
    obtain rfl : f = 205 := (Option.some.inj (show some 205 = some f from hg)).symm
    rw [prog_205] at hA; cases hA
  | 35, hg =>
    obtain rfl : f = 206 := (Option.some.inj (show some 206 = some f from hg)).symm
    rw [prog_206] at hA; cases hA
  | 36, hg =>
    obtain rfl : f = 207 := (Option.some.inj (show some 207 = some f from hg)).symm
    rw [prog_207] at hA; cases hA
  | 37, hg =>
    obtain rfl : f = 208 := (Option.some.inj (show some 208 = some f from hg)).symm
    rw [prog_208] at hA; cases hA
  | 38, hg =>
    obtain rfl : f = 209 := (Option.some.inj (show some 209 = some f from hg)).symm
    rw [prog_209] at hA; cases hA
  | 39, hg =>
    obtain rfl : f = 210 := (Option.some.inj (show some 210 = some f from hg)).symm
    rw [prog_210] at hA; cases hA
  | 40, hg =>
    obtain rfl : f = 211 := (Option.some.inj (show some 211 = some f from hg)).symm
    rw [prog_211] at hA; cases hA
  | 41, hg =>
    obtain rfl : f = 212 := (Option.some.inj (show some 212 = some f from hg)).symm
    rw [prog_212] at hA; cases hA
  | 42, hg =>
    obtain rfl : f = 115 := (Option.some.inj (show some 115 = some f from hg)).symm
    rw [prog_115] at hA; cases hA
  | 43, hg =>
    obtain rfl : f = 113 := (Option.some.inj (show some 113 = some f from hg)).symm
    rw [prog_113] at hA; cases hA
  | 44, hg =>
    obtain rfl : f = 214 := (Option.some.inj (show some 214 = some f from hg)).symm
    rw [prog_214] at hA; cases hA
  | 45, hg =>
    obtain rfl : f = 53 := (Option.some.inj (show some 53 = some f from hg)).symm
    rw [prog_53] at hA; cases hA
  | 46, hg =>
    obtain rfl : f = 56 := (Option.some.inj (show some 56 = some f from hg)).symm
    rw [prog_56] at hA; cases hA
  | 47, hg =>
    obtain rfl : f = 74 := (Option.some.inj (show some 74 = some f from hg)).symm
    rw [prog_74] at hA; cases hA
  | 48, hg =>
    obtain rfl : f = 213 := (Option.some.inj (show some 213 = some f from hg)).symm
    rw [prog_213] at hA; cases hA
  | 49, hg =>
    obtain rfl : f = 114 := (Option.some.inj (show some 114 = some f from hg)).symm
    rw [prog_114] at hA; cases hA
  | 50, hg =>
    obtain rfl : f = 128 := (Option.some.inj (show some 128 = some f from hg)).symm
    rw [prog_128] at hA; cases hA
  | 51, hg =>
    obtain rfl : f = 111 := (Option.some.inj (show some 111 = some f from hg)).symm
    rw [prog_111] at hA; cases hA
  | 52, hg =>
    obtain rfl : f = 69 := (Option.some.inj (show some 69 = some f from hg)).symm
    rw [prog_69] at hA; cases hA
  | 53, hg =>
    obtain rfl : f = 80 := (Option.some.inj (show some 80 = some f from hg)).symm
    rw [prog_80] at hA; cases hA
  | 54, hg =>
    obtain rfl : f = 215 := (Option.some.inj (show some 215 = some f from hg)).symm
    rw [prog_215] at hA; cases hA
  | 55, hg =>
    obtain rfl : f = 216 := (Option.some.inj (show some 216 = some f from hg)).symm
    rw [prog_216] at hA; cases hA
  | 56, hg =>
    obtain rfl : f = 135 := (Option.some.inj (show some 135 = some f from hg)).symm
    rw [prog_135] at hA; cases hA
  | 57, hg =>
    obtain rfl : f = 124 := (Option.some.inj (show some 124 = some f from hg)).symm
    rw [prog_124] at hA; cases hA
  | 58, hg =>
    obtain rfl : f = 125 := (Option.some.inj (show some 125 = some f from hg)).symm
    rw [prog_125] at hA; cases hA
  | 59, hg =>
    obtain rfl : f = 126 := (Option.some.inj (show some 126 = some f from hg)).symm
    rw [prog_126] at hA; cases hA
  | 60, hg =>
    obtain rfl : f = 127 := (Option.some.inj (show some 127 = some f from hg)).symm
    rw [prog_127] at hA; cases hA
  | 61, hg =>
    obtain rfl : f = 77 := (Option.some.inj (show some 77 = some f from hg)).symm
    rw [prog_77] at hA; cases hA
  | 62, hg =>
    obtain rfl : f = 75 := (Option.some.inj (show some 75 = some f from hg)).symm
    rw [prog_75] at hA; cases hA
  | 63, hg =>
    obtain rfl : f = 217 := (Option.some.inj (show some 217 = some f from hg)).symm
    rw [prog_217] at hA; cases hA
  | 64, hg =>
    obtain rfl : f = 218 := (Option.some.inj (show some 218 = some f from hg)).symm
    rw [prog_218] at hA; cases hA
  | 65, hg =>
    obtain rfl : f = 82 := (Option.some.inj (show some 82 = some f from hg)).symm
    obtain rfl : p = pStrIndex := (AFn.prim.inj (Option.some.inj (prog_82.symm.trans hA))).symm
    exact primStrIndex (g := gm) (ρ := Tryd.laysM219_ren) { Tryd.laysM219 with } (fun κ h => h) Tryd.func65 (by kernel_rfl) (by decide)
  | 66, hg =>
    obtain rfl : f = 133 := (Option.some.inj (show some 133 = some f from hg)).symm
    obtain rfl : p = pStrSplit := (AFn.prim.inj (Option.some.inj (prog_133.symm.trans hA))).symm
    exact primStrSplit (g := gm) { Tryd.laysM146 with } Tryd.laysM146.i9 (fun κ h => h) Tryd.func66 (by kernel_rfl) (by decide)
  | 67, hg =>
    obtain rfl : f = 134 := (Option.some.inj (show some 134 = some f from hg)).symm
    rw [prog_134] at hA; cases hA
  | 68, hg =>
    obtain rfl : f = 78 := (Option.some.inj (show some 78 = some f from hg)).symm
    obtain rfl : p = pStrIndexByte := (AFn.prim.inj (Option.some.inj (prog_78.symm.trans hA))).symm
    exact primStrIndexByte (g := gm) Tryd.lays137 Tryd.func68 (by kernel_rfl) (by decide)
  | 69, hg =>
    obtain rfl : f = 83 := (Option.some.inj (show some 83 = some f from hg)).symm
    rw [prog_83] at hA; cases hA
  | 70, hg =>
    obtain rfl : f = 81 := (Option.some.inj (show some 81 = some f from hg)).symm
    rw [prog_81] at hA; cases hA
  | 71, hg =>
    obtain rfl : f = 219 := (Option.some.inj (show some 219 = some f from hg)).symm
    rw [prog_219] at hA; cases hA
  | 72, hg =>
    obtain rfl : f = 220 := (Option.some.inj (show some 220 = some f from hg)).symm
    rw [prog_220] at hA; cases hA
  | 73, hg => exact absurd (show (none : Option Nat) = some f from hg) (by simp)
  | 74, hg => exact absurd (show (none : Option Nat) = some f from hg) (by simp)
  | 75, hg => exact absurd (show (none : Option Nat) = some f from hg) (by simp)
  | 76, hg => exact absurd (show (none : Option Nat) = some f from hg) (by simp)
  | 77, hg => exact absurd (show (none : Option Nat) = some f from hg) (by simp)
  | 78, hg =>
    obtain rfl : f = 85 := (Option.some.inj (show some 85 = some f from hg)).symm
    rw [prog_85] at hA; cases hA
  | n + 79, hg => exact absurd (show (none : Option Nat) = some f from hg) (by simp)
set_option maxRecDepth 100000 in
theorem primS_ok : ∀ (f' : FuncId) (f : Nat) (p : List PV → List (List PV) → Option (PV × Upd)), gm f' = some f → prog f = some (.primS p) → PrimSOK Tryd.prog gm f' p := by
  intro f' f p hg hA
  match f', hg with
  | 0, hg => exact absurd (show (none : Option Nat) = some f from hg) (by simp)
  | 1, hg => exact absurd (show (none : Option Nat) = some f from hg) (by simp)
  | 2, hg => exact absurd (show (none : Option Nat) = some f from hg) (by simp)
  | 3, hg => exact absurd (show (none : Option Nat) = some f from hg) (by simp)
  | 4, hg => exact absurd (show (none : Option Nat) = some f from hg) (by simp)
  | 5, hg => exact absurd (show (none : Option Nat) = some f from hg) (by simp)
  | 6, hg => exact absurd (show (none : Option Nat) = some f from hg) (by simp)
  | 7, hg => exact absurd (show (none : Option Nat) = some f from hg) (by simp)
  | 8, hg =>
    obtain rfl : f = 191 := (Option.some.inj (show some 191 = some f from hg)).symm
    rw [prog_191] at hA; cases hA
  | 9, hg =>
    obtain rfl : f = 174 := (Option.some.inj (show some 174 = some f from hg)).symm
    rw [prog_174] at hA; cases hA
  | 10, hg =>
    obtain rfl : f = 175 := (Option.some.inj (show some 175 = some f from hg)).symm
    rw [prog_175] at hA; cases hA
  | 11, hg =>
    obtain rfl : f = 176 := (Option.some.inj (show some 176 = some f from hg)).symm
    rw [prog_176] at hA; cases hA
  | 12, hg =>
    obtain rfl : f = 177 := (Option.some.inj (show some 177 = some f from hg)).symm
    rw [prog_177] at hA; cases hA
  | 13, hg =>
    obtain rfl : f = 178 := (Option.some.inj (show some 178 = some f from hg)).symm
    rw [prog_178] at hA; cases hA
  | 14, hg =>
    obtain rfl : f = 179 := (Option.some.inj (show some 179 = some f from hg)).symm
    rw [prog_179] at hA; cases hA
  | 15, hg =>
    obtain rfl : f = 180 := (Option.some.inj (show some 180 = some f from hg)).symm
    rw [prog_180] at hA; cases hA
  | 16, hg =>
    obtain rfl : f = 182 := (Option.some.inj (show some 182 = some f from hg)).symm
    rw [prog_182] at hA; cases hA
  | 17, hg =>
    obtain rfl : f = 185 := (Option.some.inj (show some 185 = some f from hg)).symm
    rw [prog_185] at hA; cases hA
  | 18, hg =>
    obtain rfl : f = 188 := (Option.some.inj (show some 188 = some f from hg)).symm
    rw [prog_188] at hA; cases hA
  | 19, hg =>
    obtain rfl : f = 189 := (Option.some.inj (show some 189 = some f from hg)).symm
    rw [prog_189] at hA; cases hA
  | 20, hg =>
    obtain rfl : f = 190 := (Option.some.inj (show some 190 = some f from hg)).symm
    rw [prog_190] at hA; cases hA
  | 21, hg =>
    obtain rfl : f = 192 := (Option.some.inj (show some 192 = some f from hg)).symm
    rw [prog_192] at hA; cases hA
  | 22, hg =>
    obtain rfl : f = 193 := (Option.some.inj (show some 193 = some f from hg)).symm
    rw [prog_193] at hA; cases hA
  | 23, hg =>
    obtain rfl : f = 194 := (Option.some.inj (show some 194 = some f from hg)).symm
    rw [prog_194] at hA; cases hA
  | 24, hg =>
    obtain rfl : f = 195 := (Option.some.inj (show some 195 = some f from hg)).symm
    rw [prog_195] at hA; cases hA
  | 25, hg =>
    obtain rfl : f = 196 := (Option.some.inj (show some 196 = some f from hg)).symm
    rw [prog_196] at hA; cases hA
  | 26, hg =>
    obtain rfl : f = 197 := (Option.some.inj (show some 197 = some f from hg)).symm
    rw [prog_197] at hA; cases hA
  | 27, hg =>
    obtain rfl : f = 198 := (Option.some.inj (show some 198 = some f from hg)).symm
    rw [prog_198] at hA; cases hA
  | 28, hg =>
    obtain rfl : f = 199 := (Option.some.inj (show some 199 = some f from hg)).symm
    rw [prog_199] at hA; cases hA
  | 29, hg =>
    obtain rfl : f = 200 := (Option.some.inj (show some 200 = some f from hg)).symm
    rw [prog_200] at hA; cases hA
  | 30, hg =>
    obtain rfl : f = 201 := (Option.some.inj (show some 201 = some f from hg)).symm
    rw [prog_201] at hA; cases hA
  | 31, hg =>
    obtain rfl : f = 202 := (Option.some.inj (show some 202 = some f from hg)).symm
    rw [prog_202] at hA; cases hA
  | 32, hg =>
    obtain rfl : f = 203 := (Option.some.inj (show some 203 = some f from hg)).symm
    rw [prog_203] at hA; cases hA
  | 33, hg =>
    obtain rfl : f = 204 := (Option.some.inj (show some 204 = some f from hg)).symm
    rw [prog_204] at hA; cases hA
  | 34, hg =>
    obtain rfl : f = 205 := (Option.some.inj (show some 205 = some f from hg)).symm
    rw [prog_205] at hA; cases hA
  | 35, hg =>
    obtain rfl : f = 206 := (Option.some.inj (show some 206 = some f from hg)).symm
    rw [prog_206] at hA; cases hA
  | 36, hg =>
    obtain rfl : f = 207 := (Option.some.inj (show some 207 = some f from hg)).symm
    rw [prog_207] at hA; cases hA
  | 37, hg =>
    obtain rfl : f = 208 := (Option.some.inj (show some 208 = some f from hg)).symm
    rw [prog_208] at hA; cases hA
  | 38, hg =>
    obtain rfl : f = 209 := (Option.some.inj (show some 209 = some f from hg)).symm
    rw [prog_209] at hA; cases hA
  | 39, hg =>
    obtain rfl : f = 210 := (Option.some.inj (show some 210 = some f from hg)).symm
    rw [prog_210] at hA; cases hA
  | 40, hg =>
    obtain rfl : f = 211 := (Option.some.inj (show some 211 = some f from hg)).symm
    rw [prog_211] at hA; cases hA
  | 41, hg =>
    obtain rfl : f = 212 := (Option.some.inj (show some 212 = some f from hg)).symm
    rw [prog_212] at hA; cases hA
  | 42, hg =>
    obtain rfl : f = 115 := (Option.some.inj (show some 115 = some f from hg)).symm
    rw [prog_115] at hA; cases hA
  | 43, hg =>
    obtain rfl : f = 113 := (Option.some.inj (show some 113 = some f from hg)).symm
    rw [prog_113] at hA; cases hA
  | 44, hg =>
    obtain rfl : f = 214 := (Option.some.inj (show some 214 = some f from hg)).symm
    rw [prog_214] at hA; cases hA
  | 45, hg =>
    obtain rfl : f = 53 := (Option.some.inj (show some 53 = some f from hg)).symm
    rw [prog_53] at hA; cases hA
  | 46, hg =>
    obtain rfl : f = 56 := (Option.some.inj (show some 56 = some f from hg)).symm
    rw [prog_56] at hA; cases hA
  | 47, hg =>
    obtain rfl : f = 74 := (Option.some.inj (show some 74 = some f from hg)).symm
    rw [prog_74] at hA; cases hA
  | 48, hg =>
    obtain rfl : f = 213 := (Option.some.inj (show some 213 = some f from hg)).symm
    rw [prog_213] at hA; cases hA
  | 49, hg =>
    obtain rfl : f = 114 := (Option.some.inj (show some 114 = some f from hg)).symm
    rw [prog_114] at hA; cases hA
  | 50, hg =>
    obtain rfl : f = 128 := (Option.some.inj (show some 128 = some f from hg)).symm
    rw [prog_128] at hA; cases hA
  | 51, hg =>
    obtain rfl : f = 111 := (Option.some.inj (show some 111 = some f from hg)).symm
    rw [prog_111] at hA; cases hA
  | 52, hg =>
    obtain rfl : f = 69 := (Option.some.inj (show some 69 = some f from hg)).symm
    rw [prog_69] at hA; cases hA
  | 53, hg =>
    obtain rfl : f = 80 := (Option.some.inj (show some 80 = some f from hg)).symm
    rw [prog_80] at hA; cases hA
  | 54, hg =>
    obtain rfl : f = 215 := (Option.some.inj (show some 215 = some f from hg)).symm
    rw [prog_215] at hA; cases hA
  | 55, hg =>
    obtain rfl : f = 216 := (Option.some.inj (show some 216 = some f from hg)).symm
    rw [prog_216] at hA; cases hA
  | 56, hg =>
    obtain rfl : f = 135 := (Option.some.inj (show some 135 = some f from hg)).symm
    rw [prog_135] at hA; cases hA
  | 57, hg =>
    obtain rfl : f = 124 := (Option.some.inj (show some 124 = some f from hg)).symm
    rw [prog_124] at hA; cases hA
  | 58, hg =>
    obtain rfl : f = 125 := (Option.some.inj (show some 125 = some f from hg)).symm
    rw [prog_125] at hA; cases hA
  | 59, hg =>
    obtain rfl : f = 126 := (Option.some.inj (show some 126 = some f from hg)).symm
    rw [prog_126] at hA; cases hA
  | 60, hg =>
    obtain rfl : f = 127 := (Option.some.inj (show some 127 = some f from hg)).symm
    rw [prog_127] at hA; cases hA
  | 61, hg =>
    obtain rfl : f = 77 := (Option.some.inj (show some 77 = some f from hg)).symm
    rw [prog_77] at hA; cases hA
  | 62, hg =>
    obtain rfl : f = 75 := (Option.some.inj (show some 75 = some f from hg)).symm
    rw [prog_75] at hA; cases hA
  | 63, hg =>
    obtain rfl : f = 217 := (Option.some.inj (show some 217 = some f from hg)).symm
    rw [prog_217] at hA; cases hA
  | 64, hg =>
    obtain rfl : f = 218 := (Option.some.inj (show some 218 = some f from hg)).symm
    rw [prog_218] at hA; cases hA
  | 65, hg =>
    obtain rfl : f = 82 := (Option.some.inj (show some 82 = some f from hg)).symm
    rw [prog_82] at hA; cases hA
  | 66, hg =>
    obtain rfl : f = 133 := (Option.some.inj (show some 133 = some f from hg)).symm
    rw [prog_133] at hA; cases hA
  | 67, hg =>
    obtain rfl : f = 134 := (Option.some.inj (show some 134 = some f from hg)).symm
    rw [prog_134] at hA; cases hA
  | 68, hg =>
    obtain rfl : f = 78 := (Option.some.inj (show some 78 = some f from hg)).symm
    rw [prog_78] at hA; cases hA
  | 69, hg =>
    obtain rfl : f = 83 := (Option.some.inj (show some 83 = some f from hg)).symm
    rw [prog_83] at hA; cases hA
  | 70, hg =>
    obtain rfl : f = 81 := (Option.some.inj (show some 81 = some f from hg)).symm
    rw [prog_81] at hA; cases hA
  | 71, hg =>
    obtain rfl : f = 219 := (Option.some.inj (show some 219 = some f from hg)).symm
    rw [prog_219] at hA; cases hA
  | 72, hg =>
    obtain rfl : f = 220 := (Option.some.inj (show some 220 = some f from hg)).symm
    rw [prog_220] at hA; cases hA
  | 73, hg => exact absurd (show (none : Option Nat) = some f from hg) (by simp)
  | 74, hg => exact absurd (show (none : Option Nat) = some f from hg) (by simp)
  | 75, hg => exact absurd (show (none : Option Nat) = some f from hg) (by simp)
  | 76, hg => exact absurd (show (none : Option Nat) = some f from hg) (by simp)
  | 77, hg => exact absurd (show (none : Option Nat) = some f from hg) (by simp)
  | 78, hg =>
    obtain rfl : f = 85 := (Option.some.inj (show some 85 = some f from hg)).symm
    rw [prog_85] at hA; cases hA
  | n + 79, hg => exact absurd (show (none : Option Nat) = some f from hg) (by simp)
theorem linked : Linked Tryd.prog gm prog := ⟨code_ok, prim_ok, primS_ok, by kernel_rfl⟩
end Go.Ab.YtomocanaidhnlaaDoor
