/- Nesting, part 21: the law runs to true at these depths and kinds. -/
import Derived.Test.YtpmgingpmfmdfaaEn
namespace Go.Ev
theorem dp11_0 : deep2 11 0 = true := by kernel_rfl
theorem dp13_1 : deep2 13 1 = true := by kernel_rfl
theorem dp15_2 : deep2 15 2 = true := by kernel_rfl
theorem dp30_1 : deep2 30 1 = true := by kernel_rfl
theorem dp33_3 : deep2 33 3 = true := by kernel_rfl
theorem dp34_0 : deep2 34 0 = true := by kernel_rfl
theorem dp38_2 : deep2 38 2 = true := by kernel_rfl
theorem dp38_3 : deep2 38 3 = true := by kernel_rfl
theorem dp45_0 : deep2 45 0 = true := by kernel_rfl
end Go.Ev
