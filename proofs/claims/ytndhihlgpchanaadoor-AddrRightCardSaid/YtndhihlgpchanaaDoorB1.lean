/- The laying of copyCheck. -/
import Derived.KernelRfl
import Derived.Test.YtndhihlgpchanaaDoorA5
import Derived.Test.YtndhihlgpchanaaDoorProg
import Derived.Test.YtndhihlgpchanaaDoorA3
import Derived.Test.YtndhihlgpchanaaDoorShelf
namespace Go.Proofs
open Go.Shelf
def Tryd.laysCC_ren : Go.Shelf.Ren := ⟨fun | 240 => 33 | 276 => 39 | n => n, fun | 4 => 4 | 70 => 45 | 72 => 47 | 37 => 42 | 164 => 62 | n => n, fun | n => n⟩
theorem Tryd.laysCC : CCLay Tryd.prog Tryd.laysCC_ren := {
  mixed := by kernel_rfl
  f240 := Tryd.func33.trans (congrArg some (by kernel_rfl))
  f276 := Tryd.func39.trans (congrArg some (by kernel_rfl))
  t4 := Tryd.underlying4
  a4 := Tryd.isAgg4
  z4 := Tryd.sizeOf4
  v4 := Tryd.zeroValue4
  t70 := Tryd.underlying45
  a70 := Tryd.isAgg45
  z70 := Tryd.sizeOf45
  v70 := Tryd.zeroValue45
  t72 := Tryd.underlying47
  a72 := Tryd.isAgg47
  z72 := Tryd.sizeOf47
  v72 := Tryd.zeroValue47
  t164 := Tryd.underlying62
  a164 := Tryd.isAgg62
  z164 := Tryd.sizeOf62
  v164 := Tryd.zeroValue62 }
theorem Tryd.Builder_X72_CC : Builder.X72 Tryd.prog Tryd.laysCC_ren := {
  sizeBuilder := by kernel_rfl
  liesBuilder := by kernel_rfl }
end Go.Proofs

/-
  The abstract program belongs to this seat's program.
-/
namespace Go.Ab.YtndhihlgpchanaaDoor
open Go.Proofs Go.Shelf
set_option linter.unusedVariables false
def gfn : FuncId → Option Nat := fun f => match f with
  | 3 => some 116
  | 4 => some 119
  | 5 => some 120
  | 6 => some 123
  | 7 => some 110
  | 8 => some 111
  | 9 => some 112
  | 10 => some 113
  | 11 => some 114
  | 12 => some 115
  | 13 => some 117
  | 14 => some 118
  | 15 => some 121
  | 16 => some 122
  | 17 => some 124
  | 18 => some 125
  | 19 => some 126
  | 20 => some 127
  | 21 => some 128
  | 22 => some 57
  | 23 => some 59
  | 24 => some 129
  | 25 => some 130
  | 26 => some 72
  | 27 => some 131
  | 28 => some 78
  | 29 => some 132
  | 30 => some 133
  | 31 => some 134
  | 32 => some 135
  | 33 => some 73
  | 34 => some 136
  | 35 => some 79
  | 38 => some 82
  | _ => none
def gm : GMap := { fn := gfn, tB := 47, tU := 5, inv := fun κ => ∃ m, κ.C (Tryd.laysM146_ren.g 1) 0 = some (.int .i64 m), mono := fun _ _ h ⟨m, hm⟩ => ⟨m, h _ _ _ hm⟩, glob := fun _ => none, globOK := fun _ _ _ _ h => by cases h }
theorem chk3 : chkFn Tryd.prog gm Tryd.f3 F_posthornlaw07_AddrNormal = true := by kernel_rfl
theorem chk4 : chkFn Tryd.prog gm Tryd.f4 F_posthornlaw07_AddrBack = true := by kernel_rfl
theorem chk5 : chkFn Tryd.prog gm Tryd.f5 F_posthornlaw07_AddrRight = true := by kernel_rfl
theorem chk6 : chkFn Tryd.prog gm Tryd.f6 F_posthornlaw07_AddrJoins = true := by kernel_rfl
theorem chk7 : chkFn Tryd.prog gm Tryd.f7 F_posthornlaw07_long = true := by kernel_rfl
theorem chk8 : chkFn Tryd.prog gm Tryd.f8 F_addr_Right = true := by kernel_rfl
theorem chk9 : chkFn Tryd.prog gm Tryd.f9 F_posthornlaw07_alive = true := by kernel_rfl
theorem chk10 : chkFn Tryd.prog gm Tryd.f10 F_addr_Normal = true := by kernel_rfl
theorem chk11 : chkFn Tryd.prog gm Tryd.f11 F_posthornref04_Lower = true := by kernel_rfl
theorem chk12 : chkFn Tryd.prog gm Tryd.f12 F_addr_Plain = true := by kernel_rfl
theorem chk13 : chkFn Tryd.prog gm Tryd.f13 F_addr_Write = true := by kernel_rfl
theorem chk14 : chkFn Tryd.prog gm Tryd.f14 F_addr_Read = true := by kernel_rfl
theorem chk15 : chkFn Tryd.prog gm Tryd.f15 F_addr_List = true := by kernel_rfl
theorem chk16 : chkFn Tryd.prog gm Tryd.f16 F_posthornref07_Same = true := by kernel_rfl
theorem chk17 : chkFn Tryd.prog gm Tryd.f17 F_addr_parts = true := by kernel_rfl
theorem chk18 : chkFn Tryd.prog gm Tryd.f18 F_addr_isAtom = true := by kernel_rfl
theorem chk19 : chkFn Tryd.prog gm Tryd.f19 F_addr_isLabel = true := by kernel_rfl
theorem chk20 : chkFn Tryd.prog gm Tryd.f20 F_addr_isName = true := by kernel_rfl
theorem chk21 : chkFn Tryd.prog gm Tryd.f21 F_strings_Cut = true := by kernel_rfl
theorem chk22 : chkFn Tryd.prog gm Tryd.f22 F_P_strings_Builder_WriteByte = true := by kernel_rfl
theorem chk24 : chkFn Tryd.prog gm Tryd.f24 F_addr_trim = true := by kernel_rfl
theorem chk25 : chkFn Tryd.prog gm Tryd.f25 F_strings_HasSuffix = true := by kernel_rfl
theorem chk26 : chkFn Tryd.prog gm Tryd.f26 F_strings_HasPrefix = true := by kernel_rfl
theorem chk27 : chkFn Tryd.prog gm Tryd.f27 F_addr_unquote = true := by kernel_rfl
theorem chk29 : chkFn Tryd.prog gm Tryd.f29 F_addr_split = true := by kernel_rfl
theorem chk31 : chkFn Tryd.prog gm Tryd.f31 F_addr_alnum = true := by kernel_rfl
theorem chk32 : chkFn Tryd.prog gm Tryd.f32 F_internal_stringslite_Cut = true := by kernel_rfl
theorem chk34 : chkFn Tryd.prog gm Tryd.f34 F_internal_stringslite_HasSuffix = true := by kernel_rfl
theorem chk35 : chkFn Tryd.prog gm Tryd.f35 F_internal_stringslite_HasPrefix = true := by kernel_rfl
set_option maxRecDepth 100000 in
theorem code_ok : ∀ (f' : FuncId) (f : Nat) (fn : ACFn), gm f' = some f → prog f = some (.code fn) → ∃ pf, Tryd.prog.funcs[f']? = some pf ∧ chkFn Tryd.prog gm pf fn = true := by
  intro f' f fn hg hA
  match f', hg with
  | 0, hg => exact absurd (show (none : Option Nat) = some f from hg) (by simp)
  | 1, hg => exact absurd (show (none : Option Nat) = some f from hg) (by simp)
  | 2, hg => exact absurd (show (none : Option Nat) = some f from hg) (by simp)
  | 3, hg =>
    obtain rfl : f = 116 := (Option.some.inj (show some 116 = some f from hg)).symm
    obtain rfl : fn = F_posthornlaw07_AddrNormal := (AFn.code.inj (Option.some.inj (prog_116.symm.trans hA))).symm
    exact ⟨_, Tryd.func3, chk3⟩
  | 4, hg =>
    obtain rfl : f = 119 := (Option.some.inj (show some 119 = some f from hg)).symm
    obtain rfl : fn = F_posthornlaw07_AddrBack := (AFn.code.inj (Option.some.inj (prog_119.symm.trans hA))).symm
    exact ⟨_, Tryd.func4, chk4⟩
  | 5, hg =>
    obtain rfl : f = 120 := (Option.some.inj (show some 120 = some f from hg)).symm
    obtain rfl : fn = F_posthornlaw07_AddrRight := (AFn.code.inj (Option.some.inj (prog_120.symm.trans hA))).symm
    exact ⟨_, Tryd.func5, chk5⟩
  | 6, hg =>
    obtain rfl : f = 123 := (Option.some.inj (show some 123 = some f from hg)).symm
    obtain rfl : fn = F_posthornlaw07_AddrJoins := (AFn.code.inj (Option.some.inj (prog_123.symm.trans hA))).symm
    exact ⟨_, Tryd.func6, chk6⟩
  | 7, hg =>
    obtain rfl : f = 110 := (Option.some.inj (show some 110 = some f from hg)).symm
    obtain rfl : fn = F_posthornlaw07_long := (AFn.code.inj (Option.some.inj (prog_110.symm.trans hA))).symm
    exact ⟨_, Tryd.func7, chk7⟩
  | 8, hg =>
    obtain rfl : f = 111 := (Option.some.inj (show some 111 = some f from hg)).symm
    obtain rfl : fn = F_addr_Right := (AFn.code.inj (Option.some.inj (prog_111.symm.trans hA))).symm
    exact ⟨_, Tryd.func8, chk8⟩
  | 9, hg =>
    obtain rfl : f = 112 := (Option.some.inj (show some 112 = some f from hg)).symm
    obtain rfl : fn = F_posthornlaw07_alive := (AFn.code.inj (Option.some.inj (prog_112.symm.trans hA))).symm
    exact ⟨_, Tryd.func9, chk9⟩
  | 10, hg =>
    obtain rfl : f = 113 := (Option.some.inj (show some 113 = some f from hg)).symm
    obtain rfl : fn = F_addr_Normal := (AFn.code.inj (Option.some.inj (prog_113.symm.trans hA))).symm
    exact ⟨_, Tryd.func10, chk10⟩
  | 11, hg =>
    obtain rfl : f = 114 := (Option.some.inj (show some 114 = some f from hg)).symm
    obtain rfl : fn = F_posthornref04_Lower := (AFn.code.inj (Option.some.inj (prog_114.symm.trans hA))).symm
    exact ⟨_, Tryd.func11, chk11⟩
  | 12, hg =>
    obtain rfl : f = 115 := (Option.some.inj (show some 115 = some f from hg)).symm
    obtain rfl : fn = F_addr_Plain := (AFn.code.inj (Option.some.inj (prog_115.symm.trans hA))).symm
    exact ⟨_, Tryd.func12, chk12⟩
  | 13, hg =>
    obtain rfl : f = 117 := (Option.some.inj (show some 117 = some f from hg)).symm
    obtain rfl : fn = F_addr_Write := (AFn.code.inj (Option.some.inj (prog_117.symm.trans hA))).symm
    exact ⟨_, Tryd.func13, chk13⟩
  | 14, hg =>
    obtain rfl : f = 118 := (Option.some.inj (show some 118 = some f from hg)).symm
    obtain rfl : fn = F_addr_Read := (AFn.code.inj (Option.some.inj (prog_118.symm.trans hA))).symm
    exact ⟨_, Tryd.func14, chk14⟩
  | 15, hg =>
    obtain rfl : f = 121 := (Option.some.inj (show some 121 = some f from hg)).symm
    obtain rfl : fn = F_addr_List := (AFn.code.inj (Option.some.inj (prog_121.symm.trans hA))).symm
    exact ⟨_, Tryd.func15, chk15⟩
  | 16, hg =>
    obtain rfl : f = 122 := (Option.some.inj (show some 122 = some f from hg)).symm
    obtain rfl : fn = F_posthornref07_Same := (AFn.code.inj (Option.some.inj (prog_122.symm.trans hA))).symm
    exact ⟨_, Tryd.func16, chk16⟩
  | 17, hg =>
    obtain rfl : f = 124 := (Option.some.inj (show some 124 = some f from hg)).symm
    obtain rfl : fn = F_addr_parts := (AFn.code.inj (Option.some.inj (prog_124.symm.trans hA))).symm
    exact ⟨_, Tryd.func17, chk17⟩
  | 18, hg =>
    obtain rfl : f = 125 := (Option.some.inj (show some 125 = some f from hg)).symm
    obtain rfl : fn = F_addr_isAtom := (AFn.code.inj (Option.some.inj (prog_125.symm.trans hA))).symm
    exact ⟨_, Tryd.func18, chk18⟩
  | 19, hg =>
    obtain rfl : f = 126 := (Option.some.inj (show some 126 = some f from hg)).symm
    obtain rfl : fn = F_addr_isLabel := (AFn.code.inj (Option.some.inj (prog_126.symm.trans hA))).symm
    exact ⟨_, Tryd.func19, chk19⟩
  | 20, hg =>
    obtain rfl : f = 127 := (Option.some.inj (show some 127 = some f from hg)).symm
    obtain rfl : fn = F_addr_isName := (AFn.code.inj (Option.some.inj (prog_127.symm.trans hA))).symm
    exact ⟨_, Tryd.func20, chk20⟩
  | 21, hg =>
    obtain rfl : f = 128 := (Option.some.inj (show some 128 = some f from hg)).symm
    obtain rfl : fn = F_strings_Cut := (AFn.code.inj (Option.some.inj (prog_128.symm.trans hA))).symm
    exact ⟨_, Tryd.func21, chk21⟩
  | 22, hg =>
    obtain rfl : f = 57 := (Option.some.inj (show some 57 = some f from hg)).symm
    obtain rfl : fn = F_P_strings_Builder_WriteByte := (AFn.code.inj (Option.some.inj (prog_57.symm.trans hA))).symm
    exact ⟨_, Tryd.func22, chk22⟩
  | 23, hg =>
    obtain rfl : f = 59 := (Option.some.inj (show some 59 = some f from hg)).symm
    rw [prog_59] at hA; cases hA
  | 24, hg =>
    obtain rfl : f = 129 := (Option.some.inj (show some 129 = some f from hg)).symm
    obtain rfl : fn = F_addr_trim := (AFn.code.inj (Option.some.inj (prog_129.symm.trans hA))).symm
    exact ⟨_, Tryd.func24, chk24⟩
  | 25, hg =>
    obtain rfl : f = 130 := (Option.some.inj (show some 130 = some f from hg)).symm
    obtain rfl : fn = F_strings_HasSuffix := (AFn.code.inj (Option.some.inj (prog_130.symm.trans hA))).symm
    exact ⟨_, Tryd.func25, chk25⟩
  | 26, hg =>
    obtain rfl : f = 72 := (Option.some.inj (show some 72 = some f from hg)).symm
    obtain rfl : fn = F_strings_HasPrefix := (AFn.code.inj (Option.some.inj (prog_72.symm.trans hA))).symm
    exact ⟨_, Tryd.func26, chk26⟩
  | 27, hg =>
    obtain rfl : f = 131 := (Option.some.inj (show some 131 = some f from hg)).symm
    obtain rfl : fn = F_addr_unquote := (AFn.code.inj (Option.some.inj (prog_131.symm.trans hA))).symm
    exact ⟨_, Tryd.func27, chk27⟩
  | 28, hg =>
    obtain rfl : f = 78 := (Option.some.inj (show some 78 = some f from hg)).symm
    rw [prog_78] at hA; cases hA
  | 29, hg =>
    obtain rfl : f = 132 := (Option.some.inj (show some 132 = some f from hg)).symm
    obtain rfl : fn = F_addr_split := (AFn.code.inj (Option.some.inj (prog_132.symm.trans hA))).symm
    exact ⟨_, Tryd.func29, chk29⟩
  | 30, hg =>
    obtain rfl : f = 133 := (Option.some.inj (show some 133 = some f from hg)).symm
    rw [prog_133] at hA; cases hA
  | 31, hg =>
    obtain rfl : f = 134 := (Option.some.inj (show some 134 = some f from hg)).symm
    obtain rfl : fn = F_addr_alnum := (AFn.code.inj (Option.some.inj (prog_134.symm.trans hA))).symm
    exact ⟨_, Tryd.func31, chk31⟩
  | 32, hg =>
    obtain rfl : f = 135 := (Option.some.inj (show some 135 = some f from hg)).symm
    obtain rfl : fn = F_internal_stringslite_Cut := (AFn.code.inj (Option.some.inj (prog_135.symm.trans hA))).symm
    exact ⟨_, Tryd.func32, chk32⟩
  | 33, hg =>
    obtain rfl : f = 73 := (Option.some.inj (show some 73 = some f from hg)).symm
    rw [prog_73] at hA; cases hA
  | 34, hg =>
    obtain rfl : f = 136 := (Option.some.inj (show some 136 = some f from hg)).symm
    obtain rfl : fn = F_internal_stringslite_HasSuffix := (AFn.code.inj (Option.some.inj (prog_136.symm.trans hA))).symm
    exact ⟨_, Tryd.func34, chk34⟩
  | 35, hg =>
    obtain rfl : f = 79 := (Option.some.inj (show some 79 = some f from hg)).symm
    obtain rfl : fn = F_internal_stringslite_HasPrefix := (AFn.code.inj (Option.some.inj (prog_79.symm.trans hA))).symm
    exact ⟨_, Tryd.func35, chk35⟩
  | 36, hg => exact absurd (show (none : Option Nat) = some f from hg) (by simp)
  | 37, hg => exact absurd (show (none : Option Nat) = some f from hg) (by simp)
  | 38, hg =>
    obtain rfl : f = 82 := (Option.some.inj (show some 82 = some f from hg)).symm
    rw [prog_82] at hA; cases hA
  | n + 39, hg => exact absurd (show (none : Option Nat) = some f from hg) (by simp)
set_option maxRecDepth 100000 in
theorem prim_ok : ∀ (f' : FuncId) (f : Nat) (p : List PV → Option PV), gm f' = some f → prog f = some (.prim p) → PrimOK Tryd.prog gm f' p := by
  intro f' f p hg hA
  match f', hg with
  | 0, hg => exact absurd (show (none : Option Nat) = some f from hg) (by simp)
  | 1, hg => exact absurd (show (none : Option Nat) = some f from hg) (by simp)
  | 2, hg => exact absurd (show (none : Option Nat) = some f from hg) (by simp)
  | 3, hg =>
    obtain rfl : f = 116 := (Option.some.inj (show some 116 = some f from hg)).symm
    rw [prog_116] at hA; cases hA
  | 4, hg =>
    obtain rfl : f = 119 := (Option.some.inj (show some 119 = some f from hg)).symm
    rw [prog_119] at hA; cases hA
  | 5, hg =>
    obtain rfl : f = 120 := (Option.some.inj (show some 120 = some f from hg)).symm
    rw [prog_120] at hA; cases hA
  | 6, hg =>
    obtain rfl : f = 123 := (Option.some.inj (show some 123 = some f from hg)).symm
    rw [prog_123] at hA; cases hA
  | 7, hg =>
    obtain rfl : f = 110 := (Option.some.inj (show some 110 = some f from hg)).symm
    rw [prog_110] at hA; cases hA
  | 8, hg =>
    obtain rfl : f = 111 := (Option.some.inj (show some 111 = some f from hg)).symm
    rw [prog_111] at hA; cases hA
  | 9, hg =>
    obtain rfl : f = 112 := (Option.some.inj (show some 112 = some f from hg)).symm
    rw [prog_112] at hA; cases hA
  | 10, hg =>
    obtain rfl : f = 113 := (Option.some.inj (show some 113 = some f from hg)).symm
    rw [prog_113] at hA; cases hA
  | 11, hg =>
    obtain rfl : f = 114 := (Option.some.inj (show some 114 = some f from hg)).symm
    rw [prog_114] at hA; cases hA
  | 12, hg =>
    obtain rfl : f = 115 := (Option.some.inj (show some 115 = some f from hg)).symm
    rw [prog_115] at hA; cases hA
  | 13, hg =>
    obtain rfl : f = 117 := (Option.some.inj (show some 117 = some f from hg)).symm
    rw [prog_117] at hA; cases hA
  | 14, hg =>
    obtain rfl : f = 118 := (Option.some.inj (show some 118 = some f from hg)).symm
    rw [prog_118] at hA; cases hA
  | 15, hg =>
    obtain rfl : f = 121 := (Option.some.inj (show some 121 = some f from hg)).symm
    rw [prog_121] at hA; cases hA
  | 16, hg =>
    obtain rfl : f = 122 := (Option.some.inj (show some 122 = some f from hg)).symm
    rw [prog_122] at hA; cases hA
  | 17, hg =>
    obtain rfl : f = 124 := (Option.some.inj (show some 124 = some f from hg)).symm
    rw [prog_124] at hA; cases hA
  | 18, hg =>
    obtain rfl : f = 125 := (Option.some.inj (show some 125 = some f from hg)).symm
    rw [prog_125] at hA; cases hA
  | 19, hg =>
    obtain rfl : f = 126 := (Option.some.inj (show some 126 = some f from hg)).symm
    rw [prog_126] at hA; cases hA
  | 20, hg =>
    obtain rfl : f = 127 := (Option.some.inj (show some 127 = some f from hg)).symm
    rw [prog_127] at hA; cases hA
  | 21, hg =>
    obtain rfl : f = 128 := (Option.some.inj (show some 128 = some f from hg)).symm
    rw [prog_128] at hA; cases hA
  | 22, hg =>
    obtain rfl : f = 57 := (Option.some.inj (show some 57 = some f from hg)).symm
    rw [prog_57] at hA; cases hA
  | 23, hg =>
    obtain rfl : f = 59 := (Option.some.inj (show some 59 = some f from hg)).symm
    rw [prog_59] at hA; cases hA
  | 24, hg =>
    obtain rfl : f = 129 := (Option.some.inj (show some 129 = some f from hg)).symm
    rw [prog_129] at hA; cases hA
  | 25, hg =>
    obtain rfl : f = 130 := (Option.some.inj (show some 130 = some f from hg)).symm
    rw [prog_130] at hA; cases hA
  | 26, hg =>
    obtain rfl : f = 72 := (Option.some.inj (show some 72 = some f from hg)).symm
    rw [prog_72] at hA; cases hA
  | 27, hg =>
    obtain rfl : f = 131 := (Option.some.inj (show some 131 = some f from hg)).symm
    rw [prog_131] at hA; cases hA
  | 28, hg =>
    obtain rfl : f = 78 := (Option.some.inj (show some 78 = some f from hg)).symm
    obtain rfl : p = pStrIndexByte := (AFn.prim.inj (Option.some.inj (prog_78.symm.trans hA))).symm
    exact primStrIndexByte (g := gm) Tryd.lays137 Tryd.func28 (by kernel_rfl) (by decide)
  | 29, hg =>
    obtain rfl : f = 132 := (Option.some.inj (show some 132 = some f from hg)).symm
    rw [prog_132] at hA; cases hA
  | 30, hg =>
    obtain rfl : f = 133 := (Option.some.inj (show some 133 = some f from hg)).symm
    obtain rfl : p = pStrSplit := (AFn.prim.inj (Option.some.inj (prog_133.symm.trans hA))).symm
    exact primStrSplit (g := gm) { Tryd.laysM146 with } Tryd.laysM146.i9 (fun κ h => h) Tryd.func30 (by kernel_rfl) (by decide)
  | 31, hg =>
    obtain rfl : f = 134 := (Option.some.inj (show some 134 = some f from hg)).symm
    rw [prog_134] at hA; cases hA
  | 32, hg =>
    obtain rfl : f = 135 := (Option.some.inj (show some 135 = some f from hg)).symm
    rw [prog_135] at hA; cases hA
  | 33, hg =>
    obtain rfl : f = 73 := (Option.some.inj (show some 73 = some f from hg)).symm
    rw [prog_73] at hA; cases hA
  | 34, hg =>
    obtain rfl : f = 136 := (Option.some.inj (show some 136 = some f from hg)).symm
    rw [prog_136] at hA; cases hA
  | 35, hg =>
    obtain rfl : f = 79 := (Option.some.inj (show some 79 = some f from hg)).symm
    rw [prog_79] at hA; cases hA
  | 36, hg => exact absurd (show (none : Option Nat) = some f from hg) (by simp)
  | 37, hg => exact absurd (show (none : Option Nat) = some f from hg) (by simp)
  | 38, hg =>
    obtain rfl : f = 82 := (Option.some.inj (show some 82 = some f from hg)).symm
    obtain rfl : p = pStrIndex := (AFn.prim.inj (Option.some.inj (prog_82.symm.trans hA))).symm
    exact primStrIndex (g := gm) (ρ := Tryd.laysM219_ren) { Tryd.laysM219 with } (fun κ h => h) Tryd.func38 (by kernel_rfl) (by decide)
  | n + 39, hg => exact absurd (show (none : Option Nat) = some f from hg) (by simp)
set_option maxRecDepth 100000 in
theorem primS_ok : ∀ (f' : FuncId) (f : Nat) (p : List PV → List (List PV) → Option (PV × Upd)), gm f' = some f → prog f = some (.primS p) → PrimSOK Tryd.prog gm f' p := by
  intro f' f p hg hA
  match f', hg with
  | 0, hg => exact absurd (show (none : Option Nat) = some f from hg) (by simp)
  | 1, hg => exact absurd (show (none : Option Nat) = some f from hg) (by simp)
  | 2, hg => exact absurd (show (none : Option Nat) = some f from hg) (by simp)
  | 3, hg =>
    obtain rfl : f = 116 := (Option.some.inj (show some 116 = some f from hg)).symm
    rw [prog_116] at hA; cases hA
  | 4, hg =>
    obtain rfl : f = 119 := (Option.some.inj (show some 119 = some f from hg)).symm
    rw [prog_119] at hA; cases hA
  | 5, hg =>
    obtain rfl : f = 120 := (Option.some.inj (show some 120 = some f from hg)).symm
    rw [prog_120] at hA; cases hA
  | 6, hg =>
    obtain rfl : f = 123 := (Option.some.inj (show some 123 = some f from hg)).symm
    rw [prog_123] at hA; cases hA
  | 7, hg =>
    obtain rfl : f = 110 := (Option.some.inj (show some 110 = some f from hg)).symm
    rw [prog_110] at hA; cases hA
  | 8, hg =>
    obtain rfl : f = 111 := (Option.some.inj (show some 111 = some f from hg)).symm
    rw [prog_111] at hA; cases hA
  | 9, hg =>
    obtain rfl : f = 112 := (Option.some.inj (show some 112 = some f from hg)).symm
    rw [prog_112] at hA; cases hA
  | 10, hg =>
    obtain rfl : f = 113 := (Option.some.inj (show some 113 = some f from hg)).symm
    rw [prog_113] at hA; cases hA
  | 11, hg =>
    obtain rfl : f = 114 := (Option.some.inj (show some 114 = some f from hg)).symm
    rw [prog_114] at hA; cases hA
  | 12, hg =>
    obtain rfl : f = 115 := (Option.some.inj (show some 115 = some f from hg)).symm
    rw [prog_115] at hA; cases hA
  | 13, hg =>
    obtain rfl : f = 117 := (Option.some.inj (show some 117 = some f from hg)).symm
    rw [prog_117] at hA; cases hA
  | 14, hg =>
    obtain rfl : f = 118 := (Option.some.inj (show some 118 = some f from hg)).symm
    rw [prog_118] at hA; cases hA
  | 15, hg =>
    obtain rfl : f = 121 := (Option.some.inj (show some 121 = some f from hg)).symm
    rw [prog_121] at hA; cases hA
  | 16, hg =>
    obtain rfl : f = 122 := (Option.some.inj (show some 122 = some f from hg)).symm
    rw [prog_122] at hA; cases hA
  | 17, hg =>
    obtain rfl : f = 124 := (Option.some.inj (show some 124 = some f from hg)).symm
    rw [prog_124] at hA; cases hA
  | 18, hg =>
    obtain rfl : f = 125 := (Option.some.inj (show some 125 = some f from hg)).symm
    rw [prog_125] at hA; cases hA
  | 19, hg =>
    obtain rfl : f = 126 := (Option.some.inj (show some 126 = some f from hg)).symm
    rw [prog_126] at hA; cases hA
  | 20, hg =>
    obtain rfl : f = 127 := (Option.some.inj (show some 127 = some f from hg)).symm
    rw [prog_127] at hA; cases hA
  | 21, hg =>
    obtain rfl : f = 128 := (Option.some.inj (show some 128 = some f from hg)).symm
    rw [prog_128] at hA; cases hA
  | 22, hg =>
    obtain rfl : f = 57 := (Option.some.inj (show some 57 = some f from hg)).symm
    rw [prog_57] at hA; cases hA
  | 23, hg =>
    obtain rfl : f = 59 := (Option.some.inj (show some 59 = some f from hg)).symm
    obtain rfl : p = pBuilderString := (AFn.primS.inj (Option.some.inj (prog_59.symm.trans hA))).symm
    exact primBuilderString (g := gm) Tryd.lays169 Tryd.Builder_Extra_169 rfl Tryd.func23 (by kernel_rfl) (by decide)
  | 24, hg =>
    obtain rfl : f = 129 := (Option.some.inj (show some 129 = some f from hg)).symm
    rw [prog_129] at hA; cases hA
  | 25, hg =>
    obtain rfl : f = 130 := (Option.some.inj (show some 130 = some f from hg)).symm
    rw [prog_130] at hA; cases hA
  | 26, hg =>
    obtain rfl : f = 72 := (Option.some.inj (show some 72 = some f from hg)).symm
    rw [prog_72] at hA; cases hA
  | 27, hg =>
    obtain rfl : f = 131 := (Option.some.inj (show some 131 = some f from hg)).symm
    rw [prog_131] at hA; cases hA
  | 28, hg =>
    obtain rfl : f = 78 := (Option.some.inj (show some 78 = some f from hg)).symm
    rw [prog_78] at hA; cases hA
  | 29, hg =>
    obtain rfl : f = 132 := (Option.some.inj (show some 132 = some f from hg)).symm
    rw [prog_132] at hA; cases hA
  | 30, hg =>
    obtain rfl : f = 133 := (Option.some.inj (show some 133 = some f from hg)).symm
    rw [prog_133] at hA; cases hA
  | 31, hg =>
    obtain rfl : f = 134 := (Option.some.inj (show some 134 = some f from hg)).symm
    rw [prog_134] at hA; cases hA
  | 32, hg =>
    obtain rfl : f = 135 := (Option.some.inj (show some 135 = some f from hg)).symm
    rw [prog_135] at hA; cases hA
  | 33, hg =>
    obtain rfl : f = 73 := (Option.some.inj (show some 73 = some f from hg)).symm
    obtain rfl : p = pCopyCheck := (AFn.primS.inj (Option.some.inj (prog_73.symm.trans hA))).symm
    exact primCopyCheck (g := gm) Tryd.laysCC Tryd.Builder_X72_CC rfl Tryd.func33 (by kernel_rfl) (by decide)
  | 34, hg =>
    obtain rfl : f = 136 := (Option.some.inj (show some 136 = some f from hg)).symm
    rw [prog_136] at hA; cases hA
  | 35, hg =>
    obtain rfl : f = 79 := (Option.some.inj (show some 79 = some f from hg)).symm
    rw [prog_79] at hA; cases hA
  | 36, hg => exact absurd (show (none : Option Nat) = some f from hg) (by simp)
  | 37, hg => exact absurd (show (none : Option Nat) = some f from hg) (by simp)
  | 38, hg =>
    obtain rfl : f = 82 := (Option.some.inj (show some 82 = some f from hg)).symm
    rw [prog_82] at hA; cases hA
  | n + 39, hg => exact absurd (show (none : Option Nat) = some f from hg) (by simp)
theorem linked : Linked Tryd.prog gm prog := ⟨code_ok, prim_ok, primS_ok, by kernel_rfl⟩
end Go.Ab.YtndhihlgpchanaaDoor
