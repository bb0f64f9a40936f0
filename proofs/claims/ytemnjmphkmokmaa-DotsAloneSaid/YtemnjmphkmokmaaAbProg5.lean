/-
  The abstract program: functions by their numbers.
-/
import Derived.Test.YtemnjmphkmokmaaAbFn5
import Derived.Test.YtemnjmphkmokmaaAbPrim
namespace Go.Ab
def prog : AP := fun n => match n with
  | 2 => some (.code F_posthornlaw05_alive)
  | 3 => some (.code F_dots_Stuff)
  | 4 => some (.code F_posthornref05_Stuff)
  | 5 => some (.code F_dots_Right)
  | 6 => some (.code F_posthornref05_Right)
  | 7 => some (.code F_posthornlaw05_DotsStuffs)
  | 8 => some (.code F_posthornref05_Lines)
  | 9 => some (.code F_posthornlaw05_DotsAlone)
  | 10 => some (.code F_P_dots_Reader_Put)
  | 11 => some (.code F_posthornref05_Frame)
  | 12 => some (.code F_P_dots_Reader_Text)
  | 13 => some (.code F_posthornlaw05_DotsNobody)
  | 14 => some (.code F_posthornref01_Copy)
  | 15 => some (.code F_dots_New)
  | 16 => some (.code F_posthornlaw05_DotsBack)
  | 17 => some (.code F_posthornlaw05_DotsCuts)
  | 18 => some (.code F_dots_lines)
  | 19 => some (.code F_bytes_CutSuffix)
  | 20 => some (.code F_dots_bare)
  | 21 => some (.code F_posthornref05_bare)
  | 22 => some (.code F_posthornref03_Pair)
  | 23 => some (.code F_P_dots_Reader_fault)
  | 24 => some (.code F_P_dots_Reader_take)
  | 25 => some (.code F_posthornref05_fault)
  | 26 => some (.code F_slices_Clone_s_byte_byte)
  | 27 => some (.code F_dots_lines_c1)
  | 28 => some (.code F_bytes_HasSuffix)
  | 29 => some (.code F_slices_IndexFunc_s_byte_byte)
  | 30 => some (.code F_dots_bare_c1)
  | 31 => some (.code F_bytes_CutPrefix)
  | 32 => some (.prim pBytesIndex)
  | 33 => some (.prim pBytesIndexByte)
  | 34 => some (.code F_bytes_Equal)
  | 35 => some (.code F_bytes_HasPrefix)
  | 37 => some (.code F_internal_bytealg_Cutover)
  | 38 => some (.code F_internal_bytealg_hashStr_s_byte)
  | 39 => some (.code F_internal_bytealg_IndexRabinKarp_s_byte)
  | _ => none
theorem prog_2 : prog 2 = some (.code F_posthornlaw05_alive) := rfl
theorem prog_3 : prog 3 = some (.code F_dots_Stuff) := rfl
theorem prog_4 : prog 4 = some (.code F_posthornref05_Stuff) := rfl
theorem prog_5 : prog 5 = some (.code F_dots_Right) := rfl
theorem prog_6 : prog 6 = some (.code F_posthornref05_Right) := rfl
theorem prog_7 : prog 7 = some (.code F_posthornlaw05_DotsStuffs) := rfl
theorem prog_8 : prog 8 = some (.code F_posthornref05_Lines) := rfl
theorem prog_9 : prog 9 = some (.code F_posthornlaw05_DotsAlone) := rfl
theorem prog_10 : prog 10 = some (.code F_P_dots_Reader_Put) := rfl
theorem prog_11 : prog 11 = some (.code F_posthornref05_Frame) := rfl
theorem prog_12 : prog 12 = some (.code F_P_dots_Reader_Text) := rfl
theorem prog_13 : prog 13 = some (.code F_posthornlaw05_DotsNobody) := rfl
theorem prog_14 : prog 14 = some (.code F_posthornref01_Copy) := rfl
theorem prog_15 : prog 15 = some (.code F_dots_New) := rfl
theorem prog_16 : prog 16 = some (.code F_posthornlaw05_DotsBack) := rfl
theorem prog_17 : prog 17 = some (.code F_posthornlaw05_DotsCuts) := rfl
theorem prog_18 : prog 18 = some (.code F_dots_lines) := rfl
theorem prog_19 : prog 19 = some (.code F_bytes_CutSuffix) := rfl
theorem prog_20 : prog 20 = some (.code F_dots_bare) := rfl
theorem prog_21 : prog 21 = some (.code F_posthornref05_bare) := rfl
theorem prog_22 : prog 22 = some (.code F_posthornref03_Pair) := rfl
theorem prog_23 : prog 23 = some (.code F_P_dots_Reader_fault) := rfl
theorem prog_24 : prog 24 = some (.code F_P_dots_Reader_take) := rfl
theorem prog_25 : prog 25 = some (.code F_posthornref05_fault) := rfl
theorem prog_26 : prog 26 = some (.code F_slices_Clone_s_byte_byte) := rfl
theorem prog_27 : prog 27 = some (.code F_dots_lines_c1) := rfl
theorem prog_28 : prog 28 = some (.code F_bytes_HasSuffix) := rfl
theorem prog_29 : prog 29 = some (.code F_slices_IndexFunc_s_byte_byte) := rfl
theorem prog_30 : prog 30 = some (.code F_dots_bare_c1) := rfl
theorem prog_31 : prog 31 = some (.code F_bytes_CutPrefix) := rfl
theorem prog_32 : prog 32 = some (.prim pBytesIndex) := rfl
theorem prog_33 : prog 33 = some (.prim pBytesIndexByte) := rfl
theorem prog_34 : prog 34 = some (.code F_bytes_Equal) := rfl
theorem prog_35 : prog 35 = some (.code F_bytes_HasPrefix) := rfl
theorem prog_37 : prog 37 = some (.code F_internal_bytealg_Cutover) := rfl
theorem prog_38 : prog 38 = some (.code F_internal_bytealg_hashStr_s_byte) := rfl
theorem prog_39 : prog 39 = some (.code F_internal_bytealg_IndexRabinKarp_s_byte) := rfl
end Go.Ab
