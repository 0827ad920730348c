/- Nesting, part 18: the law runs to true at these depths and kinds. -/
import Derived.Test.YtpmgingpmfmdfaaEn
namespace Go.Ev
theorem dp2_2 : deep2 2 2 = true := by kernel_rfl
theorem dp3_2 : deep2 3 2 = true := by kernel_rfl
theorem dp6_3 : deep2 6 3 = true := by kernel_rfl
theorem dp13_3 : deep2 13 3 = true := by kernel_rfl
theorem dp26_0 : deep2 26 0 = true := by kernel_rfl
theorem dp27_2 : deep2 27 2 = true := by kernel_rfl
theorem dp41_3 : deep2 41 3 = true := by kernel_rfl
theorem dp49_2 : deep2 49 2 = true := by kernel_rfl
theorem dp50_1 : deep2 50 1 = true := by kernel_rfl
theorem dp58_1 : deep2 58 1 = true := by kernel_rfl
theorem dp59_1 : deep2 59 1 = true := by kernel_rfl
end Go.Ev
