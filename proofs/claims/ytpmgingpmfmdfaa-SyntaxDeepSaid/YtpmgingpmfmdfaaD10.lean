/- Nesting, part 10: the law runs to true at these depths and kinds. -/
import Derived.Test.YtpmgingpmfmdfaaEn
namespace Go.Ev
theorem dp2_0 : deep2 2 0 = true := by kernel_rfl
theorem dp4_1 : deep2 4 1 = true := by kernel_rfl
theorem dp12_1 : deep2 12 1 = true := by kernel_rfl
theorem dp13_2 : deep2 13 2 = true := by kernel_rfl
theorem dp18_2 : deep2 18 2 = true := by kernel_rfl
theorem dp21_3 : deep2 21 3 = true := by kernel_rfl
theorem dp33_2 : deep2 33 2 = true := by kernel_rfl
theorem dp42_0 : deep2 42 0 = true := by kernel_rfl
theorem dp49_3 : deep2 49 3 = true := by kernel_rfl
theorem dp54_0 : deep2 54 0 = true := by kernel_rfl
theorem dp57_2 : deep2 57 2 = true := by kernel_rfl
end Go.Ev
