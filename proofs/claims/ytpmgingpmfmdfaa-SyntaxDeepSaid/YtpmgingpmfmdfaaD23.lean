/- Nesting, part 23: the law runs to true at these depths and kinds. -/
import Derived.Test.YtpmgingpmfmdfaaEn
namespace Go.Ev
theorem dp8_3 : deep2 8 3 = true := by kernel_rfl
theorem dp10_1 : deep2 10 1 = true := by kernel_rfl
theorem dp13_0 : deep2 13 0 = true := by kernel_rfl
theorem dp31_1 : deep2 31 1 = true := by kernel_rfl
theorem dp33_0 : deep2 33 0 = true := by kernel_rfl
theorem dp35_3 : deep2 35 3 = true := by kernel_rfl
theorem dp36_3 : deep2 36 3 = true := by kernel_rfl
theorem dp41_2 : deep2 41 2 = true := by kernel_rfl
theorem dp44_0 : deep2 44 0 = true := by kernel_rfl
end Go.Ev
