/- Nesting, part 5: the law runs to true at these depths and kinds. -/
import Derived.Test.YtpmgingpmfmdfaaEn
namespace Go.Ev
theorem dp9_1 : deep2 9 1 = true := by kernel_rfl
theorem dp19_0 : deep2 19 0 = true := by kernel_rfl
theorem dp26_3 : deep2 26 3 = true := by kernel_rfl
theorem dp27_0 : deep2 27 0 = true := by kernel_rfl
theorem dp30_2 : deep2 30 2 = true := by kernel_rfl
theorem dp39_1 : deep2 39 1 = true := by kernel_rfl
theorem dp51_1 : deep2 51 1 = true := by kernel_rfl
theorem dp52_2 : deep2 52 2 = true := by kernel_rfl
theorem dp54_3 : deep2 54 3 = true := by kernel_rfl
end Go.Ev
