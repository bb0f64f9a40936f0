/-
  The abstract program belongs to this seat's program.
-/
import Derived.Test.YtomocanaidhnlaaDoorA3
import Derived.Test.YtomocanaidhnlaaDoorA4
import Derived.KernelRfl
import Derived.Test.YtomocanaidhnlaaDoorProg
import Derived.Test.YtomocanaidhnlaaDoorShelf
set_option linter.unusedVariables false
set_option linter.unusedSimpArgs false
namespace Go.Ab.YtomocanaidhnlaaDoor
open Go.Proofs Go.Shelf
set_option maxRecDepth 20000
def gfn : FuncId → Option Nat := fun f => match f with
  | 7 => some 187
  | 9 => some 174
  | 10 => some 175
  | 11 => some 176
  | 13 => some 178
  | 15 => some 180
  | 16 => some 182
  | 17 => some 185
  | 21 => some 192
  | 22 => some 193
  | 23 => some 194
  | 28 => some 199
  | 29 => some 200
  | 30 => some 201
  | 31 => some 202
  | 32 => some 203
  | 33 => some 204
  | 34 => some 205
  | 42 => some 115
  | 43 => some 113
  | 44 => some 214
  | 45 => some 53
  | 50 => some 128
  | 51 => some 111
  | 52 => some 69
  | 56 => some 135
  | 57 => some 124
  | 58 => some 125
  | 59 => some 126
  | 60 => some 127
  | 61 => some 77
  | 65 => some 82
  | 66 => some 133
  | 67 => some 134
  | 68 => some 78
  | 69 => some 83
  | _ => none
def gm : GMap := { fn := gfn, tB := 0, tU := 5, inv := fun κ => ∃ m, κ.C (Tryd.laysM219_ren.g 1) 0 = some (.int .i64 m), mono := fun _ _ h ⟨m, hm⟩ => ⟨m, h _ _ _ hm⟩, glob := fun _ => none, globOK := fun _ _ _ _ h => by cases h }
theorem chk7 : chkFn Tryd.prog gm Tryd.f7 F_posthornlaw14_RulesOthers = true := by kernel_rfl
theorem chk9 : chkFn Tryd.prog gm Tryd.f9 F_posthornlaw13_Great = true := by kernel_rfl
theorem chk10 : chkFn Tryd.prog gm Tryd.f10 F_posthornlaw14_alive = true := by kernel_rfl
theorem chk11 : chkFn Tryd.prog gm Tryd.f11 F_rules_Methods = true := by kernel_rfl
theorem chk13 : chkFn Tryd.prog gm Tryd.f13 F_rules_Check = true := by kernel_rfl
theorem chk15 : chkFn Tryd.prog gm Tryd.f15 F_rules_Role = true := by kernel_rfl
theorem chk16 : chkFn Tryd.prog gm Tryd.f16 F_rules_Newer = true := by kernel_rfl
theorem chk17 : chkFn Tryd.prog gm Tryd.f17 F_rules_Sender = true := by kernel_rfl
theorem chk21 : chkFn Tryd.prog gm Tryd.f21 F_posthornlaw13_Message = true := by kernel_rfl
theorem chk22 : chkFn Tryd.prog gm Tryd.f22 F_rules_needs = true := by kernel_rfl
theorem chk23 : chkFn Tryd.prog gm Tryd.f23 F_event_Right = true := by kernel_rfl
theorem chk28 : chkFn Tryd.prog gm Tryd.f28 F_when_Right = true := by kernel_rfl
theorem chk29 : chkFn Tryd.prog gm Tryd.f29 F_event_optional = true := by kernel_rfl
theorem chk30 : chkFn Tryd.prog gm Tryd.f30 F_event_isMethod = true := by kernel_rfl
theorem chk31 : chkFn Tryd.prog gm Tryd.f31 F_event_isUID = true := by kernel_rfl
theorem chk32 : chkFn Tryd.prog gm Tryd.f32 F_event_isPerson = true := by kernel_rfl
theorem chk33 : chkFn Tryd.prog gm Tryd.f33 F_event_people = true := by kernel_rfl
theorem chk34 : chkFn Tryd.prog gm Tryd.f34 F_event_isNote = true := by kernel_rfl
theorem chk42 : chkFn Tryd.prog gm Tryd.f42 F_addr_Plain = true := by kernel_rfl
theorem chk43 : chkFn Tryd.prog gm Tryd.f43 F_addr_Normal = true := by kernel_rfl
theorem chk44 : chkFn Tryd.prog gm Tryd.f44 F_event_isAnswer = true := by kernel_rfl
theorem chk45 : chkFn Tryd.prog gm Tryd.f45 F_utf_Valid = true := by kernel_rfl
theorem chk50 : chkFn Tryd.prog gm Tryd.f50 F_strings_Cut = true := by kernel_rfl
theorem chk51 : chkFn Tryd.prog gm Tryd.f51 F_addr_Right = true := by kernel_rfl
theorem chk52 : chkFn Tryd.prog gm Tryd.f52 F_utf_Points = true := by kernel_rfl
theorem chk56 : chkFn Tryd.prog gm Tryd.f56 F_internal_stringslite_Cut = true := by kernel_rfl
theorem chk57 : chkFn Tryd.prog gm Tryd.f57 F_addr_parts = true := by kernel_rfl
theorem chk58 : chkFn Tryd.prog gm Tryd.f58 F_addr_isAtom = true := by kernel_rfl
theorem chk59 : chkFn Tryd.prog gm Tryd.f59 F_addr_isLabel = true := by kernel_rfl
theorem chk60 : chkFn Tryd.prog gm Tryd.f60 F_addr_isName = true := by kernel_rfl
theorem chk61 : chkFn Tryd.prog gm Tryd.f61 F_utf_Next = true := by kernel_rfl
theorem chk67 : chkFn Tryd.prog gm Tryd.f67 F_addr_alnum = true := by kernel_rfl
theorem chk69 : chkFn Tryd.prog gm Tryd.f69 F_utf_isPoint = true := by kernel_rfl
set_option maxRecDepth 100000 in
theorem code_ok : ∀ (f' : FuncId) (f : Nat) (fn : ACFn), gm f' = some f → prog f = some (.code fn) → ∃ pf, Tryd.prog.funcs[f']? = some pf ∧ chkFn Tryd.prog gm pf fn = true := by
  intro f' f fn hg hA
  match f', hg with
  | 0, hg => exact absurd (show (none : Option Nat) = some f from hg) (by simp)
  | 1, hg => exact absurd (show (none : Option Nat) = some f from hg) (by simp)
  | 2, hg => exact absurd (show (none : Option Nat) = some f from hg) (by simp)
  | 3, hg => exact absurd (show (none : Option Nat) = some f from hg) (by simp)
  | 4, hg => exact absurd (show (none : Option Nat) = some f from hg) (by simp)
  | 5, hg => exact absurd (show (none : Option Nat) = some f from hg) (by simp)
  | 6, hg => exact absurd (show (none : Option Nat) = some f from hg) (by simp)
  | 7, hg =>
    obtain rfl : f = 187 := (Option.some.inj (show some 187 = some f from hg)).symm
    obtain rfl : fn = F_posthornlaw14_RulesOthers := (AFn.code.inj (Option.some.inj (prog_187.symm.trans hA))).symm
    exact ⟨_, Tryd.func7, chk7⟩
  | 8, hg => exact absurd (show (none : Option Nat) = some f from hg) (by simp)
  | 9, hg =>
    obtain rfl : f = 174 := (Option.some.inj (show some 174 = some f from hg)).symm
    obtain rfl : fn = F_posthornlaw13_Great := (AFn.code.inj (Option.some.inj (prog_174.symm.trans hA))).symm
    exact ⟨_, Tryd.func9, chk9⟩
  | 10, hg =>
    obtain rfl : f = 175 := (Option.some.inj (show some 175 = some f from hg)).symm
    obtain rfl : fn = F_posthornlaw14_alive := (AFn.code.inj (Option.some.inj (prog_175.symm.trans hA))).symm
    exact ⟨_, Tryd.func10, chk10⟩
  | 11, hg =>
    obtain rfl : f = 176 := (Option.some.inj (show some 176 = some f from hg)).symm
    obtain rfl : fn = F_rules_Methods := (AFn.code.inj (Option.some.inj (prog_176.symm.trans hA))).symm
    exact ⟨_, Tryd.func11, chk11⟩
  | 12, hg => exact absurd (show (none : Option Nat) = some f from hg) (by simp)
  | 13, hg =>
    obtain rfl : f = 178 := (Option.some.inj (show some 178 = some f from hg)).symm
    obtain rfl : fn = F_rules_Check := (AFn.code.inj (Option.some.inj (prog_178.symm.trans hA))).symm
    exact ⟨_, Tryd.func13, chk13⟩
  | 14, hg => exact absurd (show (none : Option Nat) = some f from hg) (by simp)
  | 15, hg =>
    obtain rfl : f = 180 := (Option.some.inj (show some 180 = some f from hg)).symm
    obtain rfl : fn = F_rules_Role := (AFn.code.inj (Option.some.inj (prog_180.symm.trans hA))).symm
    exact ⟨_, Tryd.func15, chk15⟩
  | 16, hg =>
    obtain rfl : f = 182 := (Option.some.inj (show some 182 = some f from hg)).symm
    obtain rfl : fn = F_rules_Newer := (AFn.code.inj (Option.some.inj (prog_182.symm.trans hA))).symm
    exact ⟨_, Tryd.func16, chk16⟩
  | 17, hg =>
    obtain rfl : f = 185 := (Option.some.inj (show some 185 = some f from hg)).symm
    obtain rfl : fn = F_rules_Sender := (AFn.code.inj (Option.some.inj (prog_185.symm.trans hA))).symm
    exact ⟨_, Tryd.func17, chk17⟩
  | 18, hg => exact absurd (show (none : Option Nat) = some f from hg) (by simp)
  | 19, hg => exact absurd (show (none : Option Nat) = some f from hg) (by simp)
  | 20, hg => exact absurd (show (none : Option Nat) = some f from hg) (by simp)
  | 21, hg =>
    obtain rfl : f = 192 := (Option.some.inj (show some 192 = some f from hg)).symm
    obtain rfl : fn = F_posthornlaw13_Message := (AFn.code.inj (Option.some.inj (prog_192.symm.trans hA))).symm
    exact ⟨_, Tryd.func21, chk21⟩
  | 22, hg =>
    obtain rfl : f = 193 := (Option.some.inj (show some 193 = some f from hg)).symm
    obtain rfl : fn = F_rules_needs := (AFn.code.inj (Option.some.inj (prog_193.symm.trans hA))).symm
    exact ⟨_, Tryd.func22, chk22⟩
  | 23, hg =>
    obtain rfl : f = 194 := (Option.some.inj (show some 194 = some f from hg)).symm
    obtain rfl : fn = F_event_Right := (AFn.code.inj (Option.some.inj (prog_194.symm.trans hA))).symm
    exact ⟨_, Tryd.func23, chk23⟩
  | 24, hg => exact absurd (show (none : Option Nat) = some f from hg) (by simp)
  | 25, hg => exact absurd (show (none : Option Nat) = some f from hg) (by simp)
  | 26, hg => exact absurd (show (none : Option Nat) = some f from hg) (by simp)
  | 27, hg => exact absurd (show (none : Option Nat) = some f from hg) (by simp)
  | 28, hg =>
    obtain rfl : f = 199 := (Option.some.inj (show some 199 = some f from hg)).symm
    obtain rfl : fn = F_when_Right := (AFn.code.inj (Option.some.inj (prog_199.symm.trans hA))).symm
    exact ⟨_, Tryd.func28, chk28⟩
  | 29, hg =>
    obtain rfl : f = 200 := (Option.some.inj (show some 200 = some f from hg)).symm
    obtain rfl : fn = F_event_optional := (AFn.code.inj (Option.some.inj (prog_200.symm.trans hA))).symm
    exact ⟨_, Tryd.func29, chk29⟩
  | 30, hg =>
    obtain rfl : f = 201 := (Option.some.inj (show some 201 = some f from hg)).symm
    obtain rfl : fn = F_event_isMethod := (AFn.code.inj (Option.some.inj (prog_201.symm.trans hA))).symm
    exact ⟨_, Tryd.func30, chk30⟩
  | 31, hg =>
    obtain rfl : f = 202 := (Option.some.inj (show some 202 = some f from hg)).symm
    obtain rfl : fn = F_event_isUID := (AFn.code.inj (Option.some.inj (prog_202.symm.trans hA))).symm
    exact ⟨_, Tryd.func31, chk31⟩
  | 32, hg =>
    obtain rfl : f = 203 := (Option.some.inj (show some 203 = some f from hg)).symm
    obtain rfl : fn = F_event_isPerson := (AFn.code.inj (Option.some.inj (prog_203.symm.trans hA))).symm
    exact ⟨_, Tryd.func32, chk32⟩
  | 33, hg =>
    obtain rfl : f = 204 := (Option.some.inj (show some 204 = some f from hg)).symm
    obtain rfl : fn = F_event_people := (AFn.code.inj (Option.some.inj (prog_204.symm.trans hA))).symm
    exact ⟨_, Tryd.func33, chk33⟩
  | 34, hg =>
    obtain rfl : f = 205 := (Option.some.inj (show some 205 = some f from hg)).symm
    obtain rfl : fn = F_event_isNote := (AFn.code.inj (Option.some.inj (prog_205.symm.trans hA))).symm
    exact ⟨_, Tryd.func34, chk34⟩
  | 35, hg => exact absurd (show (none : Option Nat) = some f from hg) (by simp)
  | 36, hg => exact absurd (show (none : Option Nat) = some f from hg) (by simp)
  | 37, hg => exact absurd (show (none : Option Nat) = some f from hg) (by simp)
  | 38, hg => exact absurd (show (none : Option Nat) = some f from hg) (by simp)
  | 39, hg => exact absurd (show (none : Option Nat) = some f from hg) (by simp)
  | 40, hg => exact absurd (show (none : Option Nat) = some f from hg) (by simp)
  | 41, hg => exact absurd (show (none : Option Nat) = some f from hg) (by simp)
  | 42, hg =>
    obtain rfl : f = 115 := (Option.some.inj (show some 115 = some f from hg)).symm
    obtain rfl : fn = F_addr_Plain := (AFn.code.inj (Option.some.inj (prog_115.symm.trans hA))).symm
    exact ⟨_, Tryd.func42, chk42⟩
  | 43, hg =>
    obtain rfl : f = 113 := (Option.some.inj (show some 113 = some f from hg)).symm
    obtain rfl : fn = F_addr_Normal := (AFn.code.inj (Option.some.inj (prog_113.symm.trans hA))).symm
    exact ⟨_, Tryd.func43, chk43⟩
  | 44, hg =>
    obtain rfl : f = 214 := (Option.some.inj (show some 214 = some f from hg)).symm
    obtain rfl : fn = F_event_isAnswer := (AFn.code.inj (Option.some.inj (prog_214.symm.trans hA))).symm
    exact ⟨_, Tryd.func44, chk44⟩
  | 45, hg =>
    obtain rfl : f = 53 := (Option.some.inj (show some 53 = some f from hg)).symm
    obtain rfl : fn = F_utf_Valid := (AFn.code.inj (Option.some.inj (prog_53.symm.trans hA))).symm
    exact ⟨_, Tryd.func45, chk45⟩
  | 46, hg => exact absurd (show (none : Option Nat) = some f from hg) (by simp)
  | 47, hg => exact absurd (show (none : Option Nat) = some f from hg) (by simp)
  | 48, hg => exact absurd (show (none : Option Nat) = some f from hg) (by simp)
  | 49, hg => exact absurd (show (none : Option Nat) = some f from hg) (by simp)
  | 50, hg =>
    obtain rfl : f = 128 := (Option.some.inj (show some 128 = some f from hg)).symm
    obtain rfl : fn = F_strings_Cut := (AFn.code.inj (Option.some.inj (prog_128.symm.trans hA))).symm
    exact ⟨_, Tryd.func50, chk50⟩
  | 51, hg =>
    obtain rfl : f = 111 := (Option.some.inj (show some 111 = some f from hg)).symm
    obtain rfl : fn = F_addr_Right := (AFn.code.inj (Option.some.inj (prog_111.symm.trans hA))).symm
    exact ⟨_, Tryd.func51, chk51⟩
  | 52, hg =>
    obtain rfl : f = 69 := (Option.some.inj (show some 69 = some f from hg)).symm
    obtain rfl : fn = F_utf_Points := (AFn.code.inj (Option.some.inj (prog_69.symm.trans hA))).symm
    exact ⟨_, Tryd.func52, chk52⟩
  | 53, hg => exact absurd (show (none : Option Nat) = some f from hg) (by simp)
  | 54, hg => exact absurd (show (none : Option Nat) = some f from hg) (by simp)
  | 55, hg => exact absurd (show (none : Option Nat) = some f from hg) (by simp)
  | 56, hg =>
    obtain rfl : f = 135 := (Option.some.inj (show some 135 = some f from hg)).symm
    obtain rfl : fn = F_internal_stringslite_Cut := (AFn.code.inj (Option.some.inj (prog_135.symm.trans hA))).symm
    exact ⟨_, Tryd.func56, chk56⟩
  | 57, hg =>
    obtain rfl : f = 124 := (Option.some.inj (show some 124 = some f from hg)).symm
    obtain rfl : fn = F_addr_parts := (AFn.code.inj (Option.some.inj (prog_124.symm.trans hA))).symm
    exact ⟨_, Tryd.func57, chk57⟩
  | 58, hg =>
    obtain rfl : f = 125 := (Option.some.inj (show some 125 = some f from hg)).symm
    obtain rfl : fn = F_addr_isAtom := (AFn.code.inj (Option.some.inj (prog_125.symm.trans hA))).symm
    exact ⟨_, Tryd.func58, chk58⟩
  | 59, hg =>
    obtain rfl : f = 126 := (Option.some.inj (show some 126 = some f from hg)).symm
    obtain rfl : fn = F_addr_isLabel := (AFn.code.inj (Option.some.inj (prog_126.symm.trans hA))).symm
    exact ⟨_, Tryd.func59, chk59⟩
  | 60, hg =>
    obtain rfl : f = 127 := (Option.some.inj (show some 127 = some f from hg)).symm
    obtain rfl : fn = F_addr_isName := (AFn.code.inj (Option.some.inj (prog_127.symm.trans hA))).symm
    exact ⟨_, Tryd.func60, chk60⟩
  | 61, hg =>
    obtain rfl : f = 77 := (Option.some.inj (show some 77 = some f from hg)).symm
    obtain rfl : fn = F_utf_Next := (AFn.code.inj (Option.some.inj (prog_77.symm.trans hA))).symm
    exact ⟨_, Tryd.func61, chk61⟩
  | 62, hg => exact absurd (show (none : Option Nat) = some f from hg) (by simp)
  | 63, hg => exact absurd (show (none : Option Nat) = some f from hg) (by simp)
  | 64, hg => exact absurd (show (none : Option Nat) = some f from hg) (by simp)
  | 65, hg =>
    obtain rfl : f = 82 := (Option.some.inj (show some 82 = some f from hg)).symm
    rw [prog_82] at hA; cases hA
  | 66, hg =>
    obtain rfl : f = 133 := (Option.some.inj (show some 133 = some f from hg)).symm
    rw [prog_133] at hA; cases hA
  | 67, hg =>
    obtain rfl : f = 134 := (Option.some.inj (show some 134 = some f from hg)).symm
    obtain rfl : fn = F_addr_alnum := (AFn.code.inj (Option.some.inj (prog_134.symm.trans hA))).symm
    exact ⟨_, Tryd.func67, chk67⟩
  | 68, hg =>
    obtain rfl : f = 78 := (Option.some.inj (show some 78 = some f from hg)).symm
    rw [prog_78] at hA; cases hA
  | 69, hg =>
    obtain rfl : f = 83 := (Option.some.inj (show some 83 = some f from hg)).symm
    obtain rfl : fn = F_utf_isPoint := (AFn.code.inj (Option.some.inj (prog_83.symm.trans hA))).symm
    exact ⟨_, Tryd.func69, chk69⟩
  | n + 70, hg => exact absurd (show (none : Option Nat) = some f from hg) (by simp)
set_option maxRecDepth 100000 in
theorem prim_ok : ∀ (f' : FuncId) (f : Nat) (p : List PV → Option PV), gm f' = some f → prog f = some (.prim p) → PrimOK Tryd.prog gm f' p := by
  intro f' f p hg hA
  match f', hg with
  | 0, hg => exact absurd (show (none : Option Nat) = some f from hg) (by simp)
  | 1, hg => exact absurd (show (none : Option Nat) = some f from hg) (by simp)
  | 2, hg => exact absurd (show (none : Option Nat) = some f from hg) (by simp)
  | 3, hg => exact absurd (show (none : Option Nat) = some f from hg) (by simp)
  | 4, hg => exact absurd (show (none : Option Nat) = some f from hg) (by simp)
  | 5, hg => exact absurd (show (none : Option Nat) = some f from hg) (by simp)
  | 6, hg => exact absurd (show (none : Option Nat) = some f from hg) (by simp)
  | 7, hg =>
    obtain rfl : f = 187 := (Option.some.inj (show some 187 = some f from hg)).symm
    rw [prog_187] at hA; cases hA
  | 8, hg => exact absurd (show (none : Option Nat) = some f from hg) (by simp)
  | 9, hg =>
    obtain rfl : f = 174 := (Option.some.inj (show some 174 = some f from hg)).symm
    rw [prog_174] at hA; cases hA
  | 10, hg =>
    obtain rfl : f = 175 := (Option.some.inj (show some 175 = some f from hg)).symm
    rw [prog_175] at hA; cases hA
  | 11, hg =>
    obtain rfl : f = 176 := (Option.some.inj (show some 176 = some f from hg)).symm
    rw [prog_176] at hA; cases hA
  | 12, hg => exact absurd (show (none : Option Nat) = some f from hg) (by simp)
  | 13, hg =>
    obtain rfl : f = 178 := (Option.some.inj (show some 178 = some f from hg)).symm
    rw [prog_178] at hA; cases hA
  | 14, hg => exact absurd (show (none : Option Nat) = some f from hg) (by simp)
  | 15, hg =>
    obtain rfl : f = 180 := (Option.some.inj (show some 180 = some f from hg)).symm
    rw [prog_180] at hA; cases hA
  | 16, hg =>
    obtain rfl : f = 182 := (Option.some.inj (show some 182 = some f from hg)).symm
    rw [prog_182] at hA; cases hA
  | 17, hg =>
    obtain rfl : f = 185 := (Option.some.inj (show some 185 = some f from hg)).symm
    rw [prog_185] at hA; cases hA
  | 18, hg => exact absurd (show (none : Option Nat) = some f from hg) (by simp)
  | 19, hg => exact absurd (show (none : Option Nat) = some f from hg) (by simp)
  | 20, hg => exact absurd (show (none : Option Nat) = some f from hg) (by simp)
  | 21, hg =>
    obtain rfl : f = 192 := (Option.some.inj (show some 192 = some f from hg)).symm
    rw [prog_192] at hA; cases hA
  | 22, hg =>
    obtain rfl : f = 193 := (Option.some.inj (show some 193 = some f from hg)).symm
    rw [prog_193] at hA; cases hA
  | 23, hg =>
    obtain rfl : f = 194 := (Option.some.inj (show some 194 = some f from hg)).symm
    rw [prog_194] at hA; cases hA
  | 24, hg => exact absurd (show (none : Option Nat) = some f from hg) (by simp)
  | 25, hg => exact absurd (show (none : Option Nat) = some f from hg) (by simp)
  | 26, hg => exact absurd (show (none : Option Nat) = some f from hg) (by simp)
  | 27, hg => exact absurd (show (none : Option Nat) = some f from hg) (by simp)
  | 28, hg =>
    obtain rfl : f = 199 := (Option.some.inj (show some 199 = some f from hg)).symm
    rw [prog_199] at hA; cases hA
  | 29, hg =>
    obtain rfl : f = 200 := (Option.some.inj (show some 200 = some f from hg)).symm
    rw [prog_200] at hA; cases hA
  | 30, hg =>
    obtain rfl : f = 201 := (Option.some.inj (show some 201 = some f from hg)).symm
    rw [prog_201] at hA; cases hA
  | 31, hg =>
    obtain rfl : f = 202 := (Option.some.inj (show some 202 = some f from hg)).symm
    rw [prog_202] at hA; cases hA
  | 32, hg =>
    obtain rfl : f = 203 := (Option.some.inj (show some 203 = some f from hg)).symm
    rw [prog_203] at hA; cases hA
  | 33, hg =>
    obtain rfl : f = 204 := (Option.some.inj (show some 204 = some f from hg)).symm
    rw [prog_204] at hA; cases hA
  | 34, hg =>
    obtain rfl : f = 205 := (Option.some.inj (show some 205 = some f from hg)).symm
    rw [prog_205] at hA; cases hA
  | 35, hg => exact absurd (show (none : Option Nat) = some f from hg) (by simp)
  | 36, hg => exact absurd (show (none : Option Nat) = some f from hg) (by simp)
  | 37, hg => exact absurd (show (none : Option Nat) = some f from hg) (by simp)
  | 38, hg => exact absurd (show (none : Option Nat) = some f from hg) (by simp)
  | 39, hg => exact absurd (show (none : Option Nat) = some f from hg) (by simp)
  | 40, hg => exact absurd (show (none : Option Nat) = some f from hg) (by simp)
  | 41, hg => exact absurd (show (none : Option Nat) = some f from hg) (by simp)
  | 42, hg =>
    obtain rfl : f = 115 := (Option.some.inj (show some 115 = some f from hg)).symm
    rw [prog_115] at hA; cases hA
  | 43, hg =>
    obtain rfl : f = 113 := (Option.some.inj (show some 113 = some f from hg)).symm
    rw [prog_113] at hA; cases hA
  | 44, hg =>
    obtain rfl : f = 214 := (Option.some.inj (show some 214 = some f from hg)).symm
    rw [prog_214] at hA; cases hA
  | 45, hg =>
    obtain rfl : f = 53 := (Option.some.inj (show some 53 = some f from hg)).symm
    rw [prog_53] at hA; cases hA
  | 46, hg => exact absurd (show (none : Option Nat) = some f from hg) (by simp)
  | 47, hg => exact absurd (show (none : Option Nat) = some f from hg) (by simp)
  | 48, hg => exact absurd (show (none : Option Nat) = some f from hg) (by simp)
  | 49, hg => exact absurd (show (none : Option Nat) = some f from hg) (by simp)
  | 50, hg =>
    obtain rfl : f = 128 := (Option.some.inj (show some 128 = some f from hg)).symm
    rw [prog_128] at hA; cases hA
  | 51, hg =>
    obtain rfl : f = 111 := (Option.some.inj (show some 111 = some f from hg)).symm
    rw [prog_111] at hA; cases hA
  | 52, hg =>
    obtain rfl : f = 69 := (Option.some.inj (show some 69 = some f from hg)).symm
    rw [prog_69] at hA; cases hA
  | 53, hg => exact absurd (show (none : Option Nat) = some f from hg) (by simp)
  | 54, hg => exact absurd (show (none : Option Nat) = some f from hg) (by simp)
  | 55, hg => exact absurd (show (none : Option Nat) = some f from hg) (by simp)
  | 56, hg =>
    obtain rfl : f = 135 := (Option.some.inj (show some 135 = some f from hg)).symm
    rw [prog_135] at hA; cases hA
  | 57, hg =>
    obtain rfl : f = 124 := (Option.some.inj (show some 124 = some f from hg)).symm
    rw [prog_124] at hA; cases hA
  | 58, hg =>
    obtain rfl : f = 125 := (Option.some.inj (show some 125 = some f from hg)).symm
    rw [prog_125] at hA; cases hA
  | 59, hg =>
    obtain rfl : f = 126 := (Option.some.inj (show some 126 = some f from hg)).symm
    rw [prog_126] at hA; cases hA
  | 60, hg =>
    obtain rfl : f = 127 := (Option.some.inj (show some 127 = some f from hg)).symm
    rw [prog_127] at hA; cases hA
  | 61, hg =>
    obtain rfl : f = 77 := (Option.some.inj (show some 77 = some f from hg)).symm
    rw [prog_77] at hA; cases hA
  | 62, hg => exact absurd (show (none : Option Nat) = some f from hg) (by simp)
  | 63, hg => exact absurd (show (none : Option Nat) = some f from hg) (by simp)
  | 64, hg => exact absurd (show (none : Option Nat) = some f from hg) (by simp)
  | 65, hg =>
    obtain rfl : f = 82 := (Option.some.inj (show some 82 = some f from hg)).symm
    obtain rfl : p = pStrIndex := (AFn.prim.inj (Option.some.inj (prog_82.symm.trans hA))).symm
    exact primStrIndex (g := gm) (ρ := Tryd.laysM219_ren) { Tryd.laysM219 with } (fun κ h => h) Tryd.func65 (by kernel_rfl) (by decide)
  | 66, hg =>
    obtain rfl : f = 133 := (Option.some.inj (show some 133 = some f from hg)).symm
    obtain rfl : p = pStrSplit := (AFn.prim.inj (Option.some.inj (prog_133.symm.trans hA))).symm
    exact primStrSplit (g := gm) { Tryd.laysM146 with } Tryd.laysM146.i9 (fun κ h => h) Tryd.func66 (by kernel_rfl) (by decide)
  | 67, hg =>
    obtain rfl : f = 134 := (Option.some.inj (show some 134 = some f from hg)).symm
    rw [prog_134] at hA; cases hA
  | 68, hg =>
    obtain rfl : f = 78 := (Option.some.inj (show some 78 = some f from hg)).symm
    obtain rfl : p = pStrIndexByte := (AFn.prim.inj (Option.some.inj (prog_78.symm.trans hA))).symm
    exact primStrIndexByte (g := gm) Tryd.lays137 Tryd.func68 (by kernel_rfl) (by decide)
  | 69, hg =>
    obtain rfl : f = 83 := (Option.some.inj (show some 83 = some f from hg)).symm
    rw [prog_83] at hA; cases hA
  | n + 70, hg => exact absurd (show (none : Option Nat) = some f from hg) (by simp)
set_option maxRecDepth 100000 in
theorem primS_ok : ∀ (f' : FuncId) (f : Nat) (p : List PV → List (List PV) → Option (PV × Upd)), gm f' = some f → prog f = some (.primS p) → PrimSOK Tryd.prog gm f' p := by
  intro f' f p hg hA
  match f', hg with
  | 0, hg => exact absurd (show (none : Option Nat) = some f from hg) (by simp)
  | 1, hg => exact absurd (show (none : Option Nat) = some f from hg) (by simp)
  | 2, hg => exact absurd (show (none : Option Nat) = some f from hg) (by simp)
  | 3, hg => exact absurd (show (none : Option Nat) = some f from hg) (by simp)
  | 4, hg => exact absurd (show (none : Option Nat) = some f from hg) (by simp)
  | 5, hg => exact absurd (show (none : Option Nat) = some f from hg) (by simp)
  | 6, hg => exact absurd (show (none : Option Nat) = some f from hg) (by simp)
  | 7, hg =>
    obtain rfl : f = 187 := (Option.some.inj (show some 187 = some f from hg)).symm
    rw [prog_187] at hA; cases hA
  | 8, hg => exact absurd (show (none : Option Nat) = some f from hg) (by simp)
  | 9, hg =>
    obtain rfl : f = 174 := (Option.some.inj (show some 174 = some f from hg)).symm
    rw [prog_174] at hA; cases hA
  | 10, hg =>
    obtain rfl : f = 175 := (Option.some.inj (show some 175 = some f from hg)).symm
    rw [prog_175] at hA; cases hA
  | 11, hg =>
    obtain rfl : f = 176 := (Option.some.inj (show some 176 = some f from hg)).symm
    rw [prog_176] at hA; cases hA
  | 12, hg => exact absurd (show (none : Option Nat) = some f from hg) (by simp)
  | 13, hg =>
    obtain rfl : f = 178 := (Option.some.inj (show some 178 = some f from hg)).symm
    rw [prog_178] at hA; cases hA
  | 14, hg => exact absurd (show (none : Option Nat) = some f from hg) (by simp)
  | 15, hg =>
    obtain rfl : f = 180 := (Option.some.inj (show some 180 = some f from hg)).symm
    rw [prog_180] at hA; cases hA
  | 16, hg =>
    obtain rfl : f = 182 := (Option.some.inj (show some 182 = some f from hg)).symm
    rw [prog_182] at hA; cases hA
  | 17, hg =>
    obtain rfl : f = 185 := (Option.some.inj (show some 185 = some f from hg)).symm
    rw [prog_185] at hA; cases hA
  | 18, hg => exact absurd (show (none : Option Nat) = some f from hg) (by simp)
  | 19, hg => exact absurd (show (none : Option Nat) = some f from hg) (by simp)
  | 20, hg => exact absurd (show (none : Option Nat) = some f from hg) (by simp)
  | 21, hg =>
    obtain rfl : f = 192 := (Option.some.inj (show some 192 = some f from hg)).symm
    rw [prog_192] at hA; cases hA
  | 22, hg =>
    obtain rfl : f = 193 := (Option.some.inj (show some 193 = some f from hg)).symm
    rw [prog_193] at hA; cases hA
  | 23, hg =>
    obtain rfl : f = 194 := (Option.some.inj (show some 194 = some f from hg)).symm
    rw [prog_194] at hA; cases hA
  | 24, hg => exact absurd (show (none : Option Nat) = some f from hg) (by simp)
  | 25, hg => exact absurd (show (none : Option Nat) = some f from hg) (by simp)
  | 26, hg => exact absurd (show (none : Option Nat) = some f from hg) (by simp)
  | 27, hg => exact absurd (show (none : Option Nat) = some f from hg) (by simp)
  | 28, hg =>
    obtain rfl : f = 199 := (Option.some.inj (show some 199 = some f from hg)).symm
    rw [prog_199] at hA; cases hA
  | 29, hg =>
    obtain rfl : f = 200 := (Option.some.inj (show some 200 = some f from hg)).symm
    rw [prog_200] at hA; cases hA
  | 30, hg =>
    obtain rfl : f = 201 := (Option.some.inj (show some 201 = some f from hg)).symm
    rw [prog_201] at hA; cases hA
  | 31, hg =>
    obtain rfl : f = 202 := (Option.some.inj (show some 202 = some f from hg)).symm
    rw [prog_202] at hA; cases hA
  | 32, hg =>
    obtain rfl : f = 203 := (Option.some.inj (show some 203 = some f from hg)).symm
    rw [prog_203] at hA; cases hA
  | 33, hg =>
    obtain rfl : f = 204 := (Option.some.inj (show some 204 = some f from hg)).symm
    rw [prog_204] at hA; cases hA
  | 34, hg =>
    obtain rfl : f = 205 := (Option.some.inj (show some 205 = some f from hg)).symm
    rw [prog_205] at hA; cases hA
  | 35, hg => exact absurd (show (none : Option Nat) = some f from hg) (by simp)
  | 36, hg => exact absurd (show (none : Option Nat) = some f from hg) (by simp)
  | 37, hg => exact absurd (show (none : Option Nat) = some f from hg) (by simp)
  | 38, hg => exact absurd (show (none : Option Nat) = some f from hg) (by simp)
  | 39, hg => exact absurd (show (none : Option Nat) = some f from hg) (by simp)
  | 40, hg => exact absurd (show (none : Option Nat) = some f from hg) (by simp)
  | 41, hg => exact absurd (show (none : Option Nat) = some f from hg) (by simp)
  | 42, hg =>
    obtain rfl : f = 115 := (Option.some.inj (show some 115 = some f from hg)).symm
    rw [prog_115] at hA; cases hA
  | 43, hg =>
    obtain rfl : f = 113 := (Option.some.inj (show some 113 = some f from hg)).symm
    rw [prog_113] at hA; cases hA
  | 44, hg =>
    obtain rfl : f = 214 := (Option.some.inj (show some 214 = some f from hg)).symm
    rw [prog_214] at hA; cases hA
  | 45, hg =>
    obtain rfl : f = 53 := (Option.some.inj (show some 53 = some f from hg)).symm
    rw [prog_53] at hA; cases hA
  | 46, hg => exact absurd (show (none : Option Nat) = some f from hg) (by simp)
  | 47, hg => exact absurd (show (none : Option Nat) = some f from hg) (by simp)
  | 48, hg => exact absurd (show (none : Option Nat) = some f from hg) (by simp)
  | 49, hg => exact absurd (show (none : Option Nat) = some f from hg) (by simp)
  | 50, hg =>
    obtain rfl : f = 128 := (Option.some.inj (show some 128 = some f from hg)).symm
    rw [prog_128] at hA; cases hA
  | 51, hg =>
    obtain rfl : f = 111 := (Option.some.inj (show some 111 = some f from hg)).symm
    rw [prog_111] at hA; cases hA
  | 52, hg =>
    obtain rfl : f = 69 := (Option.some.inj (show some 69 = some f from hg)).symm
    rw [prog_69] at hA; cases hA
  | 53, hg => exact absurd (show (none : Option Nat) = some f from hg) (by simp)
  | 54, hg => exact absurd (show (none : Option Nat) = some f from hg) (by simp)
  | 55, hg => exact absurd (show (none : Option Nat) = some f from hg) (by simp)
  | 56, hg =>
    obtain rfl : f = 135 := (Option.some.inj (show some 135 = some f from hg)).symm
    rw [prog_135] at hA; cases hA
  | 57, hg =>
    obtain rfl : f = 124 := (Option.some.inj (show some 124 = some f from hg)).symm
    rw [prog_124] at hA; cases hA
  | 58, hg =>
    obtain rfl : f = 125 := (Option.some.inj (show some 125 = some f from hg)).symm
    rw [prog_125] at hA; cases hA
  | 59, hg =>
    obtain rfl : f = 126 := (Option.some.inj (show some 126 = some f from hg)).symm
    rw [prog_126] at hA; cases hA
  | 60, hg =>
    obtain rfl : f = 127 := (Option.some.inj (show some 127 = some f from hg)).symm
    rw [prog_127] at hA; cases hA
  | 61, hg =>
    obtain rfl : f = 77 := (Option.some.inj (show some 77 = some f from hg)).symm
    rw [prog_77] at hA; cases hA
  | 62, hg => exact absurd (show (none : Option Nat) = some f from hg) (by simp)
  | 63, hg => exact absurd (show (none : Option Nat) = some f from hg) (by simp)
  | 64, hg => exact absurd (show (none : Option Nat) = some f from hg) (by simp)
  | 65, hg =>
    obtain rfl : f = 82 := (Option.some.inj (show some 82 = some f from hg)).symm
    rw [prog_82] at hA; cases hA
  | 66, hg =>
    obtain rfl : f = 133 := (Option.some.inj (show some 133 = some f from hg)).symm
    rw [prog_133] at hA; cases hA
  | 67, hg =>
    obtain rfl : f = 134 := (Option.some.inj (show some 134 = some f from hg)).symm
    rw [prog_134] at hA; cases hA
  | 68, hg =>
    obtain rfl : f = 78 := (Option.some.inj (show some 78 = some f from hg)).symm
    rw [prog_78] at hA; cases hA
  | 69, hg =>
    obtain rfl : f = 83 := (Option.some.inj (show some 83 = some f from hg)).symm
    rw [prog_83] at hA; cases hA
  | n + 70, hg => exact absurd (show (none : Option Nat) = some f from hg) (by simp)
theorem linked : Linked Tryd.prog gm prog := ⟨code_ok, prim_ok, primS_ok, by kernel_rfl⟩
end Go.Ab.YtomocanaidhnlaaDoor
