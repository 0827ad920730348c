/- Nesting, part 9: the law runs to true at these depths and kinds. -/
import Derived.Test.YtpmgingpmfmdfaaEn
namespace Go.Ev
theorem dp0_0 : deep2 0 0 = true := by kernel_rfl
theorem dp4_0 : deep2 4 0 = true := by kernel_rfl
theorem dp12_0 : deep2 12 0 = true := by kernel_rfl
theorem dp20_1 : deep2 20 1 = true := by kernel_rfl
theorem dp22_3 : deep2 22 3 = true := by kernel_rfl
theorem dp28_1 : deep2 28 1 = true := by kernel_rfl
theorem dp32_2 : deep2 32 2 = true := by kernel_rfl
theorem dp41_1 : deep2 41 1 = true := by kernel_rfl
theorem dp50_3 : deep2 50 3 = true := by kernel_rfl
theorem dp53_1 : deep2 53 1 = true := by kernel_rfl
theorem dp56_2 : deep2 56 2 = true := by kernel_rfl
end Go.Ev
