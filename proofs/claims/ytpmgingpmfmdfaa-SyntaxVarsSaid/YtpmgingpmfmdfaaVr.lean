/- Each way to tell a variable: the law runs to true; cases by the sign, the name, the quotes. -/
import Derived.Test.YtpmgingpmfmdfaaAw
namespace Go.Ev
theorem v0_0f : vars 0 0 false = true := by kernel_rfl
theorem v0_0t : vars 0 0 true = true := by kernel_rfl
theorem v0_1f : vars 0 1 false = true := by kernel_rfl
theorem v0_1t : vars 0 1 true = true := by kernel_rfl
theorem v0_2f : vars 0 2 false = true := by kernel_rfl
theorem v0_2t : vars 0 2 true = true := by kernel_rfl
theorem v0_3f : vars 0 3 false = true := by kernel_rfl
theorem v0_3t : vars 0 3 true = true := by kernel_rfl
theorem v1_0f : vars 1 0 false = true := by kernel_rfl
theorem v1_0t : vars 1 0 true = true := by kernel_rfl
theorem v1_1f : vars 1 1 false = true := by kernel_rfl
theorem v1_1t : vars 1 1 true = true := by kernel_rfl
theorem v1_2f : vars 1 2 false = true := by kernel_rfl
theorem v1_2t : vars 1 2 true = true := by kernel_rfl
theorem v1_3f : vars 1 3 false = true := by kernel_rfl
theorem v1_3t : vars 1 3 true = true := by kernel_rfl
theorem v2_0f : vars 2 0 false = true := by kernel_rfl
theorem v2_0t : vars 2 0 true = true := by kernel_rfl
theorem v2_1f : vars 2 1 false = true := by kernel_rfl
theorem v2_1t : vars 2 1 true = true := by kernel_rfl
theorem v2_2f : vars 2 2 false = true := by kernel_rfl
theorem v2_2t : vars 2 2 true = true := by kernel_rfl
theorem v2_3f : vars 2 3 false = true := by kernel_rfl
theorem v2_3t : vars 2 3 true = true := by kernel_rfl
theorem v3_0f : vars 3 0 false = true := by kernel_rfl
theorem v3_0t : vars 3 0 true = true := by kernel_rfl
theorem v3_1f : vars 3 1 false = true := by kernel_rfl
theorem v3_1t : vars 3 1 true = true := by kernel_rfl
theorem v3_2f : vars 3 2 false = true := by kernel_rfl
theorem v3_2t : vars 3 2 true = true := by kernel_rfl
theorem v3_3f : vars 3 3 false = true := by kernel_rfl
theorem v3_3t : vars 3 3 true = true := by kernel_rfl
theorem v4_0f : vars 4 0 false = true := by kernel_rfl
theorem v4_0t : vars 4 0 true = true := by kernel_rfl
theorem v4_1f : vars 4 1 false = true := by kernel_rfl
theorem v4_1t : vars 4 1 true = true := by kernel_rfl
theorem v4_2f : vars 4 2 false = true := by kernel_rfl
theorem v4_2t : vars 4 2 true = true := by kernel_rfl
theorem v4_3f : vars 4 3 false = true := by kernel_rfl
theorem v4_3t : vars 4 3 true = true := by kernel_rfl
theorem v5_0f : vars 5 0 false = true := by kernel_rfl
theorem v5_0t : vars 5 0 true = true := by kernel_rfl
theorem v5_1f : vars 5 1 false = true := by kernel_rfl
theorem v5_1t : vars 5 1 true = true := by kernel_rfl
theorem v5_2f : vars 5 2 false = true := by kernel_rfl
theorem v5_2t : vars 5 2 true = true := by kernel_rfl
theorem v5_3f : vars 5 3 false = true := by kernel_rfl
theorem v5_3t : vars 5 3 true = true := by kernel_rfl
theorem v6_0f : vars 6 0 false = true := by kernel_rfl
theorem v6_0t : vars 6 0 true = true := by kernel_rfl
theorem v6_1f : vars 6 1 false = true := by kernel_rfl
theorem v6_1t : vars 6 1 true = true := by kernel_rfl
theorem v6_2f : vars 6 2 false = true := by kernel_rfl
theorem v6_2t : vars 6 2 true = true := by kernel_rfl
theorem v6_3f : vars 6 3 false = true := by kernel_rfl
theorem v6_3t : vars 6 3 true = true := by kernel_rfl
theorem v7_0f : vars 7 0 false = true := by kernel_rfl
theorem v7_0t : vars 7 0 true = true := by kernel_rfl
theorem v7_1f : vars 7 1 false = true := by kernel_rfl
theorem v7_1t : vars 7 1 true = true := by kernel_rfl
theorem v7_2f : vars 7 2 false = true := by kernel_rfl
theorem v7_2t : vars 7 2 true = true := by kernel_rfl
theorem v7_3f : vars 7 3 false = true := by kernel_rfl
theorem v7_3t : vars 7 3 true = true := by kernel_rfl
theorem v8_0f : vars 8 0 false = true := by kernel_rfl
theorem v8_0t : vars 8 0 true = true := by kernel_rfl
theorem v8_1f : vars 8 1 false = true := by kernel_rfl
theorem v8_1t : vars 8 1 true = true := by kernel_rfl
theorem v8_2f : vars 8 2 false = true := by kernel_rfl
theorem v8_2t : vars 8 2 true = true := by kernel_rfl
theorem v8_3f : vars 8 3 false = true := by kernel_rfl
theorem v8_3t : vars 8 3 true = true := by kernel_rfl
theorem v9_0f : vars 9 0 false = true := by kernel_rfl
theorem v9_0t : vars 9 0 true = true := by kernel_rfl
theorem v9_1f : vars 9 1 false = true := by kernel_rfl
theorem v9_1t : vars 9 1 true = true := by kernel_rfl
theorem v9_2f : vars 9 2 false = true := by kernel_rfl
theorem v9_2t : vars 9 2 true = true := by kernel_rfl
theorem v9_3f : vars 9 3 false = true := by kernel_rfl
theorem v9_3t : vars 9 3 true = true := by kernel_rfl
theorem v10_0f : vars 10 0 false = true := by kernel_rfl
theorem v10_0t : vars 10 0 true = true := by kernel_rfl
theorem v10_1f : vars 10 1 false = true := by kernel_rfl
theorem v10_1t : vars 10 1 true = true := by kernel_rfl
theorem v10_2f : vars 10 2 false = true := by kernel_rfl
theorem v10_2t : vars 10 2 true = true := by kernel_rfl
theorem v10_3f : vars 10 3 false = true := by kernel_rfl
theorem v10_3t : vars 10 3 true = true := by kernel_rfl
theorem v11_0f : vars 11 0 false = true := by kernel_rfl
theorem v11_0t : vars 11 0 true = true := by kernel_rfl
theorem v11_1f : vars 11 1 false = true := by kernel_rfl
theorem v11_1t : vars 11 1 true = true := by kernel_rfl
theorem v11_2f : vars 11 2 false = true := by kernel_rfl
theorem v11_2t : vars 11 2 true = true := by kernel_rfl
theorem v11_3f : vars 11 3 false = true := by kernel_rfl
theorem v11_3t : vars 11 3 true = true := by kernel_rfl
theorem vars_all : ∀ r q : Nat, r < 12 → q < 4 → ∀ b : Bool, vars r q b = true
  | 0, 0, _, _, .false => v0_0f
  | 0, 0, _, _, .true => v0_0t
  | 0, 1, _, _, .false => v0_1f
  | 0, 1, _, _, .true => v0_1t
  | 0, 2, _, _, .false => v0_2f
  | 0, 2, _, _, .true => v0_2t
  | 0, 3, _, _, .false => v0_3f
  | 0, 3, _, _, .true => v0_3t
  | 1, 0, _, _, .false => v1_0f
  | 1, 0, _, _, .true => v1_0t
  | 1, 1, _, _, .false => v1_1f
  | 1, 1, _, _, .true => v1_1t
  | 1, 2, _, _, .false => v1_2f
  | 1, 2, _, _, .true => v1_2t
  | 1, 3, _, _, .false => v1_3f
  | 1, 3, _, _, .true => v1_3t
  | 2, 0, _, _, .false => v2_0f
  | 2, 0, _, _, .true => v2_0t
  | 2, 1, _, _, .false => v2_1f
  | 2, 1, _, _, .true => v2_1t
  | 2, 2, _, _, .false => v2_2f
  | 2, 2, _, _, .true => v2_2t
  | 2, 3, _, _, .false => v2_3f
  | 2, 3, _, _, .true => v2_3t
  | 3, 0, _, _, .false => v3_0f
  | 3, 0, _, _, .true => v3_0t
  | 3, 1, _, _, .false => v3_1f
  | 3, 1, _, _, .true => v3_1t
  | 3, 2, _, _, .false => v3_2f
  | 3, 2, _, _, .true => v3_2t
  | 3, 3, _, _, .false => v3_3f
  | 3, 3, _, _, .true => v3_3t
  | 4, 0, _, _, .false => v4_0f
  | 4, 0, _, _, .true => v4_0t
  | 4, 1, _, _, .false => v4_1f
  | 4, 1, _, _, .true => v4_1t
  | 4, 2, _, _, .false => v4_2f
  | 4, 2, _, _, .true => v4_2t
  | 4, 3, _, _, .false => v4_3f
  | 4, 3, _, _, .true => v4_3t
  | 5, 0, _, _, .false => v5_0f
  | 5, 0, _, _, .true => v5_0t
  | 5, 1, _, _, .false => v5_1f
  | 5, 1, _, _, .true => v5_1t
  | 5, 2, _, _, .false => v5_2f
  | 5, 2, _, _, .true => v5_2t
  | 5, 3, _, _, .false => v5_3f
  | 5, 3, _, _, .true => v5_3t
  | 6, 0, _, _, .false => v6_0f
  | 6, 0, _, _, .true => v6_0t
  | 6, 1, _, _, .false => v6_1f
  | 6, 1, _, _, .true => v6_1t
  | 6, 2, _, _, .false => v6_2f
  | 6, 2, _, _, .true => v6_2t
  | 6, 3, _, _, .false => v6_3f
  | 6, 3, _, _, .true => v6_3t
  | 7, 0, _, _, .false => v7_0f
  | 7, 0, _, _, .true => v7_0t
  | 7, 1, _, _, .false => v7_1f
  | 7, 1, _, _, .true => v7_1t
  | 7, 2, _, _, .false => v7_2f
  | 7, 2, _, _, .true => v7_2t
  | 7, 3, _, _, .false => v7_3f
  | 7, 3, _, _, .true => v7_3t
  | 8, 0, _, _, .false => v8_0f
  | 8, 0, _, _, .true => v8_0t
  | 8, 1, _, _, .false => v8_1f
  | 8, 1, _, _, .true => v8_1t
  | 8, 2, _, _, .false => v8_2f
  | 8, 2, _, _, .true => v8_2t
  | 8, 3, _, _, .false => v8_3f
  | 8, 3, _, _, .true => v8_3t
  | 9, 0, _, _, .false => v9_0f
  | 9, 0, _, _, .true => v9_0t
  | 9, 1, _, _, .false => v9_1f
  | 9, 1, _, _, .true => v9_1t
  | 9, 2, _, _, .false => v9_2f
  | 9, 2, _, _, .true => v9_2t
  | 9, 3, _, _, .false => v9_3f
  | 9, 3, _, _, .true => v9_3t
  | 10, 0, _, _, .false => v10_0f
  | 10, 0, _, _, .true => v10_0t
  | 10, 1, _, _, .false => v10_1f
  | 10, 1, _, _, .true => v10_1t
  | 10, 2, _, _, .false => v10_2f
  | 10, 2, _, _, .true => v10_2t
  | 10, 3, _, _, .false => v10_3f
  | 10, 3, _, _, .true => v10_3t
  | 11, 0, _, _, .false => v11_0f
  | 11, 0, _, _, .true => v11_0t
  | 11, 1, _, _, .false => v11_1f
  | 11, 1, _, _, .true => v11_1t
  | 11, 2, _, _, .false => v11_2f
  | 11, 2, _, _, .true => v11_2t
  | 11, 3, _, _, .false => v11_3f
  | 11, 3, _, _, .true => v11_3t
  | r + 12, _, h, _, _ => absurd h (by omega)
  | 0, q + 4, _, h, _ => absurd h (by omega)
  | 1, q + 4, _, h, _ => absurd h (by omega)
  | 2, q + 4, _, h, _ => absurd h (by omega)
  | 3, q + 4, _, h, _ => absurd h (by omega)
  | 4, q + 4, _, h, _ => absurd h (by omega)
  | 5, q + 4, _, h, _ => absurd h (by omega)
  | 6, q + 4, _, h, _ => absurd h (by omega)
  | 7, q + 4, _, h, _ => absurd h (by omega)
  | 8, q + 4, _, h, _ => absurd h (by omega)
  | 9, q + 4, _, h, _ => absurd h (by omega)
  | 10, q + 4, _, h, _ => absurd h (by omega)
  | 11, q + 4, _, h, _ => absurd h (by omega)
end Go.Ev
