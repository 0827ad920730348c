/- Nesting, part 0: the law runs to true at these depths and kinds. -/
import Derived.Test.YtpmgingpmfmdfaaEn
namespace Go.Ev
theorem dp6_2 : deep2 6 2 = true := by kernel_rfl
theorem dp14_1 : deep2 14 1 = true := by kernel_rfl
theorem dp23_0 : deep2 23 0 = true := by kernel_rfl
theorem dp30_0 : deep2 30 0 = true := by kernel_rfl
theorem dp31_3 : deep2 31 3 = true := by kernel_rfl
theorem dp35_0 : deep2 35 0 = true := by kernel_rfl
theorem dp37_2 : deep2 37 2 = true := by kernel_rfl
theorem dp46_0 : deep2 46 0 = true := by kernel_rfl
theorem dp59_3 : deep2 59 3 = true := by kernel_rfl
end Go.Ev
