/-
  The fixed calls at the end of the laws on dots.
-/
import Derived.Test.YtemnjmphkmokmaaAbS9
import Derived.KernelRfl
namespace Go.Ab
theorem alive5_0 : evV prog 60 (.fn 2 []) [] ⟨[], [], [], 0⟩ = some (.bool true, ⟨[], [], [], 0⟩) := by kernel_rfl
theorem alive5_1 : evV prog 60 (.fn 2 []) [] ⟨[], [true], [], 0⟩ = some (.bool true, ⟨[], [true], [], 0⟩) := by kernel_rfl
theorem alive5_2 : evV prog 60 (.fn 2 []) [] ⟨[], [true, true], [], 0⟩ = some (.bool true, ⟨[], [true, true], [], 0⟩) := by kernel_rfl
end Go.Ab
