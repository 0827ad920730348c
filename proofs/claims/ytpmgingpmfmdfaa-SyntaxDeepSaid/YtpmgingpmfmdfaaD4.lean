/- Nesting, part 4: the law runs to true at these depths and kinds. -/
import Derived.Test.YtpmgingpmfmdfaaEn
namespace Go.Ev
theorem dp1_1 : deep2 1 1 = true := by kernel_rfl
theorem dp6_0 : deep2 6 0 = true := by kernel_rfl
theorem dp18_1 : deep2 18 1 = true := by kernel_rfl
theorem dp26_1 : deep2 26 1 = true := by kernel_rfl
theorem dp27_3 : deep2 27 3 = true := by kernel_rfl
theorem dp28_2 : deep2 28 2 = true := by kernel_rfl
theorem dp39_0 : deep2 39 0 = true := by kernel_rfl
theorem dp50_2 : deep2 50 2 = true := by kernel_rfl
theorem dp51_0 : deep2 51 0 = true := by kernel_rfl
theorem dp55_3 : deep2 55 3 = true := by kernel_rfl
end Go.Ev
