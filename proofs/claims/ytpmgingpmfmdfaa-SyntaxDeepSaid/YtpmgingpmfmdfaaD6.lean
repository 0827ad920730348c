/- Nesting, part 6: the law runs to true at these depths and kinds. -/
import Derived.Test.YtpmgingpmfmdfaaEn
namespace Go.Ev
theorem dp11_1 : deep2 11 1 = true := by kernel_rfl
theorem dp19_1 : deep2 19 1 = true := by kernel_rfl
theorem dp25_3 : deep2 25 3 = true := by kernel_rfl
theorem dp27_1 : deep2 27 1 = true := by kernel_rfl
theorem dp31_2 : deep2 31 2 = true := by kernel_rfl
theorem dp40_0 : deep2 40 0 = true := by kernel_rfl
theorem dp52_0 : deep2 52 0 = true := by kernel_rfl
theorem dp53_2 : deep2 53 2 = true := by kernel_rfl
theorem dp53_3 : deep2 53 3 = true := by kernel_rfl
end Go.Ev
