/- The order of versions, in plain Lean: what the printed answer of semver.Compare is; no program in sight. -/
import Derived.Test.YtaikpnenegifnaaGreatDoorXMx2
namespace Go.Proofs.YtaikpnenegifnaaGreatDoor
set_option linter.unusedSimpArgs false
set_option linter.unusedVariables false
open Go.RowKit Go.Proofs.YtaikpnenegifnaaGreatDoorW.PrintWords Go.Proofs.YtaikpnenegifnaaGreatDoor.XM

/-- The sign of the order of two versions. -/
def vcmp (a b c x y z : Int) : Int := if a < x then -1 else if x < a then 1 else if b < y then -1 else if y < b then 1 else if c < z then -1 else if z < c then 1 else 0

theorem cmpi_f (a b : Int) : cmp_Compare_int.f a b = some (if a < b then -1 else if b < a then 1 else 0) := by
  unfold cmp_Compare_int.f cmp_isNaN_int.f
  simp only [bne_self_eq_false, Option.bind_some, Bool.false_eq_true, if_false]
  by_cases h1 : a < b
  · simp [h1]
  · by_cases h2 : b < a
    · simp [h1, h2]
    · simp [h1, h2]
theorem or3_f (k : Nat) (x y z : Int) : cmp_Or_int.f (k + 4) [x, y, z] = some (if x = 0 then (if y = 0 then z else y) else x) := by
  unfold cmp_Or_int.f
  have w1 : wrap64 1 = 1 := by unfold wrap64; omega
  have w2 : wrap64 2 = 2 := by unfold wrap64; omega
  have w3 : wrap64 3 = 3 := by unfold wrap64; omega
  by_cases hx : x = 0
  · by_cases hy : y = 0
    · by_cases hz : z = 0
      · simp [cmp_Or_int.l0, rd, hx, hy, hz, w1, w2, w3]
      · simp [cmp_Or_int.l0, rd, hx, hy, hz, w1, w2, w3]
    · simp [cmp_Or_int.l0, rd, hx, hy, w1, w2, w3]
  · simp [cmp_Or_int.l0, rd, hx, w1, w2, w3]
theorem cmp_f (k : Nat) (a b c x y z : Int) : semver_Compare.f (k + 4) a b c x y z = some (vcmp a b c x y z) := by
  unfold semver_Compare.f
  simp only [cmpi_f, Option.bind_some, or3_f]
  congr 1
  unfold vcmp
  repeat' split
  all_goals first | rfl | omega
theorem vcmp_neg (a b c x y z : Int) : vcmp x y z a b c = -vcmp a b c x y z := by
  unfold vcmp; repeat' split
  all_goals first | rfl | omega
theorem vcmp_range (a b c x y z : Int) : vcmp a b c x y z = -1 ∨ vcmp a b c x y z = 0 ∨ vcmp a b c x y z = 1 := by
  unfold vcmp; repeat' split
  all_goals simp
theorem vcmp_zero (a b c x y z : Int) : vcmp a b c x y z = 0 ↔ (a = x ∧ b = y ∧ c = z) := by
  unfold vcmp; repeat' split
  all_goals first | (simp; omega) | omega
theorem vcmp_lt (a b c x y z : Int) : vcmp a b c x y z < 0 ↔ (a < x ∨ a = x ∧ (b < y ∨ b = y ∧ c < z)) := by
  unfold vcmp; repeat' split
  all_goals omega
theorem vcmp_le (a b c x y z : Int) : vcmp a b c x y z ≤ 0 ↔ (a < x ∨ a = x ∧ (b < y ∨ b = y ∧ c ≤ z)) := by
  unfold vcmp; repeat' split
  all_goals omega
end Go.Proofs.YtaikpnenegifnaaGreatDoor
