/- Nesting, part 8: the law runs to true at these depths and kinds. -/
import Derived.Test.YtpmgingpmfmdfaaEn
namespace Go.Ev
theorem dp3_1 : deep2 3 1 = true := by kernel_rfl
theorem dp4_3 : deep2 4 3 = true := by kernel_rfl
theorem dp20_0 : deep2 20 0 = true := by kernel_rfl
theorem dp23_3 : deep2 23 3 = true := by kernel_rfl
theorem dp28_0 : deep2 28 0 = true := by kernel_rfl
theorem dp32_1 : deep2 32 1 = true := by kernel_rfl
theorem dp41_0 : deep2 41 0 = true := by kernel_rfl
theorem dp51_3 : deep2 51 3 = true := by kernel_rfl
theorem dp53_0 : deep2 53 0 = true := by kernel_rfl
theorem dp55_2 : deep2 55 2 = true := by kernel_rfl
end Go.Ev
