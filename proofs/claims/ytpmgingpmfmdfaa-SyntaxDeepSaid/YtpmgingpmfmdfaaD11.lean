/- Nesting, part 11: the law runs to true at these depths and kinds. -/
import Derived.Test.YtpmgingpmfmdfaaEn
namespace Go.Ev
theorem dp0_3 : deep2 0 3 = true := by kernel_rfl
theorem dp4_2 : deep2 4 2 = true := by kernel_rfl
theorem dp7_3 : deep2 7 3 = true := by kernel_rfl
theorem dp8_2 : deep2 8 2 = true := by kernel_rfl
theorem dp20_3 : deep2 20 3 = true := by kernel_rfl
theorem dp29_0 : deep2 29 0 = true := by kernel_rfl
theorem dp34_2 : deep2 34 2 = true := by kernel_rfl
theorem dp42_1 : deep2 42 1 = true := by kernel_rfl
theorem dp48_3 : deep2 48 3 = true := by kernel_rfl
theorem dp54_1 : deep2 54 1 = true := by kernel_rfl
theorem dp58_2 : deep2 58 2 = true := by kernel_rfl
end Go.Ev
