/- Nesting, part 17: the law runs to true at these depths and kinds. -/
import Derived.Test.YtpmgingpmfmdfaaEn
namespace Go.Ev
theorem dp1_3 : deep2 1 3 = true := by kernel_rfl
theorem dp5_0 : deep2 5 0 = true := by kernel_rfl
theorem dp14_3 : deep2 14 3 = true := by kernel_rfl
theorem dp18_0 : deep2 18 0 = true := by kernel_rfl
theorem dp25_1 : deep2 25 1 = true := by kernel_rfl
theorem dp25_2 : deep2 25 2 = true := by kernel_rfl
theorem dp38_0 : deep2 38 0 = true := by kernel_rfl
theorem dp42_3 : deep2 42 3 = true := by kernel_rfl
theorem dp47_2 : deep2 47 2 = true := by kernel_rfl
theorem dp49_1 : deep2 49 1 = true := by kernel_rfl
theorem dp57_1 : deep2 57 1 = true := by kernel_rfl
end Go.Ev
