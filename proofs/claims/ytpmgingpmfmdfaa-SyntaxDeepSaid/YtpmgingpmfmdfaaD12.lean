/- Nesting, part 12: the law runs to true at these depths and kinds. -/
import Derived.Test.YtpmgingpmfmdfaaEn
namespace Go.Ev
theorem dp1_0 : deep2 1 0 = true := by kernel_rfl
theorem dp2_3 : deep2 2 3 = true := by kernel_rfl
theorem dp10_2 : deep2 10 2 = true := by kernel_rfl
theorem dp19_3 : deep2 19 3 = true := by kernel_rfl
theorem dp21_0 : deep2 21 0 = true := by kernel_rfl
theorem dp29_1 : deep2 29 1 = true := by kernel_rfl
theorem dp35_2 : deep2 35 2 = true := by kernel_rfl
theorem dp43_0 : deep2 43 0 = true := by kernel_rfl
theorem dp47_3 : deep2 47 3 = true := by kernel_rfl
theorem dp55_0 : deep2 55 0 = true := by kernel_rfl
theorem dp59_2 : deep2 59 2 = true := by kernel_rfl
end Go.Ev
