/- Nesting, part 19: the law runs to true at these depths and kinds. -/
import Derived.Test.YtpmgingpmfmdfaaEn
namespace Go.Ev
theorem dp0_1 : deep2 0 1 = true := by kernel_rfl
theorem dp7_0 : deep2 7 0 = true := by kernel_rfl
theorem dp9_3 : deep2 9 3 = true := by kernel_rfl
theorem dp11_2 : deep2 11 2 = true := by kernel_rfl
theorem dp29_2 : deep2 29 2 = true := by kernel_rfl
theorem dp38_1 : deep2 38 1 = true := by kernel_rfl
theorem dp40_3 : deep2 40 3 = true := by kernel_rfl
theorem dp50_0 : deep2 50 0 = true := by kernel_rfl
theorem dp51_2 : deep2 51 2 = true := by kernel_rfl
theorem dp58_0 : deep2 58 0 = true := by kernel_rfl
theorem dp59_0 : deep2 59 0 = true := by kernel_rfl
end Go.Ev
