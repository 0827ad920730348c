/- Nesting, part 3: the law runs to true at these depths and kinds. -/
import Derived.Test.YtpmgingpmfmdfaaEn
namespace Go.Ev
theorem dp0_2 : deep2 0 2 = true := by kernel_rfl
theorem dp7_1 : deep2 7 1 = true := by kernel_rfl
theorem dp16_2 : deep2 16 2 = true := by kernel_rfl
theorem dp17_1 : deep2 17 1 = true := by kernel_rfl
theorem dp26_2 : deep2 26 2 = true := by kernel_rfl
theorem dp28_3 : deep2 28 3 = true := by kernel_rfl
theorem dp37_1 : deep2 37 1 = true := by kernel_rfl
theorem dp48_2 : deep2 48 2 = true := by kernel_rfl
theorem dp49_0 : deep2 49 0 = true := by kernel_rfl
theorem dp56_3 : deep2 56 3 = true := by kernel_rfl
end Go.Ev
