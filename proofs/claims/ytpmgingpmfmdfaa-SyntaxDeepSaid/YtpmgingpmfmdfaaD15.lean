/- Nesting, part 15: the law runs to true at these depths and kinds. -/
import Derived.Test.YtpmgingpmfmdfaaEn
namespace Go.Ev
theorem dp8_1 : deep2 8 1 = true := by kernel_rfl
theorem dp14_0 : deep2 14 0 = true := by kernel_rfl
theorem dp16_3 : deep2 16 3 = true := by kernel_rfl
theorem dp22_2 : deep2 22 2 = true := by kernel_rfl
theorem dp24_0 : deep2 24 0 = true := by kernel_rfl
theorem dp36_0 : deep2 36 0 = true := by kernel_rfl
theorem dp44_2 : deep2 44 2 = true := by kernel_rfl
theorem dp44_3 : deep2 44 3 = true := by kernel_rfl
theorem dp47_1 : deep2 47 1 = true := by kernel_rfl
theorem dp56_1 : deep2 56 1 = true := by kernel_rfl
end Go.Ev
