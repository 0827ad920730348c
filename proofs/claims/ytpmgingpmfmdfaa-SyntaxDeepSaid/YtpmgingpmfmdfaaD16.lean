/- Nesting, part 16: the law runs to true at these depths and kinds. -/
import Derived.Test.YtpmgingpmfmdfaaEn
namespace Go.Ev
theorem dp3_0 : deep2 3 0 = true := by kernel_rfl
theorem dp5_1 : deep2 5 1 = true := by kernel_rfl
theorem dp15_3 : deep2 15 3 = true := by kernel_rfl
theorem dp17_0 : deep2 17 0 = true := by kernel_rfl
theorem dp23_2 : deep2 23 2 = true := by kernel_rfl
theorem dp24_1 : deep2 24 1 = true := by kernel_rfl
theorem dp37_0 : deep2 37 0 = true := by kernel_rfl
theorem dp43_3 : deep2 43 3 = true := by kernel_rfl
theorem dp45_2 : deep2 45 2 = true := by kernel_rfl
theorem dp48_1 : deep2 48 1 = true := by kernel_rfl
theorem dp57_0 : deep2 57 0 = true := by kernel_rfl
end Go.Ev
