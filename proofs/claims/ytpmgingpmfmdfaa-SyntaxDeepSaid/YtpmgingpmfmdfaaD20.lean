/- Nesting, part 20: the law runs to true at these depths and kinds. -/
import Derived.Test.YtpmgingpmfmdfaaEn
namespace Go.Ev
theorem dp9_2 : deep2 9 2 = true := by kernel_rfl
theorem dp10_0 : deep2 10 0 = true := by kernel_rfl
theorem dp19_2 : deep2 19 2 = true := by kernel_rfl
theorem dp23_1 : deep2 23 1 = true := by kernel_rfl
theorem dp32_3 : deep2 32 3 = true := by kernel_rfl
theorem dp34_1 : deep2 34 1 = true := by kernel_rfl
theorem dp39_2 : deep2 39 2 = true := by kernel_rfl
theorem dp39_3 : deep2 39 3 = true := by kernel_rfl
theorem dp45_1 : deep2 45 1 = true := by kernel_rfl
end Go.Ev
