/- The law SemverOrders' printed answer is true, in plain Lean; no program in sight. -/
import Derived.Test.YtaikpnenegifnaaDoorXMx11
import Derived.Test.YtaikpnenegifnaaDoorPureCmp
import Derived.Test.YtaikpnenegifnaaDoorPureAlive
namespace Go.Proofs.YtaikpnenegifnaaDoor
set_option linter.unusedSimpArgs false
set_option linter.unusedVariables false
open Go.RowKit Go.Proofs.YtaikpnenegifnaaDoorW.PrintWords Go.Proofs.YtaikpnenegifnaaDoor.XM

theorem orders_true (alive : touchstonelaw05_alive.f = some true) (a b c x y z u v t : Int) : touchstonelaw05_SemverOrders.f 5 a b c x y z u v t = some true := by
  unfold touchstonelaw05_SemverOrders.f
  have hz := vcmp_zero a b c x y z
  have hg := vgap_zero a b c x y z
  have e1 : (vcmp a b c x y z == 0) = (a == x && (b == y && (c == z))) := by
    rw [Bool.eq_iff_iff]; simp [hz]
  have e2 : (vgap a b c x y z == 0) = (a == x && (b == y && (c == z))) := by
    rw [Bool.eq_iff_iff]; simp [hg]
  have lt1 := vcmp_lt a b c x y z
  have le1 := vcmp_le a b c x y z
  have le2 := vcmp_le x y z u v t
  have lt3 := vcmp_lt a b c u v t
  have le3 := vcmp_le a b c u v t
  simp only [cmp_f 1, rcmp_f, gap_f, rgap_f, Option.bind_some, if_true, vgap_comm x y z a b c, vcmp_neg a b c x y z, wneg (vcmp_range a b c x y z)]
  unfold touchstonelaw05_SemverOrders.j0
  simp only [gap_f, e1, e2, alive, Option.bind_some, bne_self_eq_false, Bool.false_eq_true, if_false]
  by_cases p1 : vcmp a b c x y z ≤ 0
  · by_cases p2 : vcmp x y z u v t ≤ 0
    · have q : ¬ vcmp a b c u v t > 0 := by omega
      simp only [p1, p2, q, if_true, if_false]
      by_cases p3 : vcmp a b c x y z < 0
      · have q2 : ¬ vcmp a b c u v t ≥ 0 := by omega
        simp only [p3, q2, if_true, if_false]
      · simp only [p3, if_false]
    · simp only [p1, p2, if_true, if_false]; split <;> rfl
  · have p3 : ¬ vcmp a b c x y z < 0 := by omega
    simp only [p1, p3, if_false]
theorem orders_ex (a b c x y z u v t : Int) : ∃ k, touchstonelaw05_SemverOrders.f k a b c x y z u v t = some true := ⟨5, orders_true alive_true a b c x y z u v t⟩
end Go.Proofs.YtaikpnenegifnaaDoor
