/- Nesting, part 14: the law runs to true at these depths and kinds. -/
import Derived.Test.YtpmgingpmfmdfaaEn
namespace Go.Ev
theorem dp3_3 : deep2 3 3 = true := by kernel_rfl
theorem dp15_0 : deep2 15 0 = true := by kernel_rfl
theorem dp17_3 : deep2 17 3 = true := by kernel_rfl
theorem dp22_0 : deep2 22 0 = true := by kernel_rfl
theorem dp31_0 : deep2 31 0 = true := by kernel_rfl
theorem dp35_1 : deep2 35 1 = true := by kernel_rfl
theorem dp40_2 : deep2 40 2 = true := by kernel_rfl
theorem dp45_3 : deep2 45 3 = true := by kernel_rfl
theorem dp46_1 : deep2 46 1 = true := by kernel_rfl
theorem dp56_0 : deep2 56 0 = true := by kernel_rfl
end Go.Ev
