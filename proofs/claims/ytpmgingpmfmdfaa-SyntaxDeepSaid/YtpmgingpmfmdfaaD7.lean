/- Nesting, part 7: the law runs to true at these depths and kinds. -/
import Derived.Test.YtpmgingpmfmdfaaEn
namespace Go.Ev
theorem dp2_1 : deep2 2 1 = true := by kernel_rfl
theorem dp7_2 : deep2 7 2 = true := by kernel_rfl
theorem dp12_2 : deep2 12 2 = true := by kernel_rfl
theorem dp17_2 : deep2 17 2 = true := by kernel_rfl
theorem dp24_3 : deep2 24 3 = true := by kernel_rfl
theorem dp32_0 : deep2 32 0 = true := by kernel_rfl
theorem dp40_1 : deep2 40 1 = true := by kernel_rfl
theorem dp52_1 : deep2 52 1 = true := by kernel_rfl
theorem dp52_3 : deep2 52 3 = true := by kernel_rfl
theorem dp54_2 : deep2 54 2 = true := by kernel_rfl
end Go.Ev
