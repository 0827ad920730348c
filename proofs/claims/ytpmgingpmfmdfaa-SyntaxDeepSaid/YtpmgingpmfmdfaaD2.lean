/- Nesting, part 2: the law runs to true at these depths and kinds. -/
import Derived.Test.YtpmgingpmfmdfaaEn
namespace Go.Ev
theorem dp1_2 : deep2 1 2 = true := by kernel_rfl
theorem dp6_1 : deep2 6 1 = true := by kernel_rfl
theorem dp16_0 : deep2 16 0 = true := by kernel_rfl
theorem dp24_2 : deep2 24 2 = true := by kernel_rfl
theorem dp25_0 : deep2 25 0 = true := by kernel_rfl
theorem dp29_3 : deep2 29 3 = true := by kernel_rfl
theorem dp36_1 : deep2 36 1 = true := by kernel_rfl
theorem dp46_2 : deep2 46 2 = true := by kernel_rfl
theorem dp48_0 : deep2 48 0 = true := by kernel_rfl
theorem dp57_3 : deep2 57 3 = true := by kernel_rfl
end Go.Ev
