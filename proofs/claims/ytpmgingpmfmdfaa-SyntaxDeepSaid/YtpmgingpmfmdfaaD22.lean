/- Nesting, part 22: the law runs to true at these depths and kinds. -/
import Derived.Test.YtpmgingpmfmdfaaEn
namespace Go.Ev
theorem dp8_0 : deep2 8 0 = true := by kernel_rfl
theorem dp16_1 : deep2 16 1 = true := by kernel_rfl
theorem dp20_2 : deep2 20 2 = true := by kernel_rfl
theorem dp21_1 : deep2 21 1 = true := by kernel_rfl
theorem dp33_1 : deep2 33 1 = true := by kernel_rfl
theorem dp34_3 : deep2 34 3 = true := by kernel_rfl
theorem dp37_3 : deep2 37 3 = true := by kernel_rfl
theorem dp42_2 : deep2 42 2 = true := by kernel_rfl
theorem dp44_1 : deep2 44 1 = true := by kernel_rfl
end Go.Ev
