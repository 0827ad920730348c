/- Nesting, part 13: the law runs to true at these depths and kinds. -/
import Derived.Test.YtpmgingpmfmdfaaEn
namespace Go.Ev
theorem dp9_0 : deep2 9 0 = true := by kernel_rfl
theorem dp10_3 : deep2 10 3 = true := by kernel_rfl
theorem dp11_3 : deep2 11 3 = true := by kernel_rfl
theorem dp15_1 : deep2 15 1 = true := by kernel_rfl
theorem dp18_3 : deep2 18 3 = true := by kernel_rfl
theorem dp22_1 : deep2 22 1 = true := by kernel_rfl
theorem dp36_2 : deep2 36 2 = true := by kernel_rfl
theorem dp43_1 : deep2 43 1 = true := by kernel_rfl
theorem dp46_3 : deep2 46 3 = true := by kernel_rfl
theorem dp55_1 : deep2 55 1 = true := by kernel_rfl
end Go.Ev
