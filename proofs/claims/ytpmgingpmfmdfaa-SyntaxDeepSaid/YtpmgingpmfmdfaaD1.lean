/- Nesting, part 1: the law runs to true at these depths and kinds. -/
import Derived.Test.YtpmgingpmfmdfaaEn
namespace Go.Ev
theorem dp5_2 : deep2 5 2 = true := by kernel_rfl
theorem dp5_3 : deep2 5 3 = true := by kernel_rfl
theorem dp12_3 : deep2 12 3 = true := by kernel_rfl
theorem dp14_2 : deep2 14 2 = true := by kernel_rfl
theorem dp21_2 : deep2 21 2 = true := by kernel_rfl
theorem dp30_3 : deep2 30 3 = true := by kernel_rfl
theorem dp43_2 : deep2 43 2 = true := by kernel_rfl
theorem dp47_0 : deep2 47 0 = true := by kernel_rfl
theorem dp58_3 : deep2 58 3 = true := by kernel_rfl
end Go.Ev
