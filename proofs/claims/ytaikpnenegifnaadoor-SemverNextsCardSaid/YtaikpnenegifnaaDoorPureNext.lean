/- semver.Next and its reference, in plain Lean; the law SemverNexts' printed answer is true; no program in sight. -/
import Derived.Test.YtaikpnenegifnaaDoorXMx12
import Derived.Test.YtaikpnenegifnaaDoorPureCmp
import Derived.Test.YtaikpnenegifnaaDoorPureAlive
namespace Go.Proofs.YtaikpnenegifnaaDoor
set_option linter.unusedSimpArgs false
set_option linter.unusedVariables false
open Go.RowKit Go.Proofs.YtaikpnenegifnaaDoorW.PrintWords Go.Proofs.YtaikpnenegifnaaDoor.XM

theorem rin_f (a : Int) : touchstoneref05_in.f a = some (decide (0 ≤ a ∧ a ≤ 999999)) := by
  unfold touchstoneref05_in.f
  by_cases h : a ≥ 0
  · rw [if_pos h]; congr 1; simp; omega
  · rw [if_neg h]; congr 1; simp; omega
theorem rright_f (a b c : Int) : touchstoneref05_Right.f a b c = semver_Right.f a b c := by
  unfold touchstoneref05_Right.f semver_Right.f
  simp only [in_f, rin_f]
theorem wrap1 {a : Int} (h0 : 0 ≤ a) (h1 : a ≤ 999999) : wrap64 (a + 1) = a + 1 := by
  unfold wrap64; omega
theorem rnext_f (k : Nat) (a b c g : Int) : touchstoneref05_Next.f (k + 2) a b c g = semver_Next.f a b c g := by
  unfold touchstoneref05_Next.f semver_Next.f
  rw [rright_f, right_f]
  by_cases hr : 0 ≤ a ∧ a ≤ 999999 ∧ 0 ≤ b ∧ b ≤ 999999 ∧ 0 ≤ c ∧ c ≤ 999999
  · have wa := wrap1 hr.1 hr.2.1
    have wb := wrap1 hr.2.2.1 hr.2.2.2.1
    have wc := wrap1 hr.2.2.2.2.1 hr.2.2.2.2.2
    rw [if_pos hr, decide_eq_true hr]
    simp only [Option.bind_some, if_true]
    by_cases g0 : g < 1
    · rw [if_pos g0, if_neg (show ¬ g = 3 by omega), if_neg (show ¬ g = 2 by omega), if_neg (show ¬ g = 1 by omega)]
      simp [touchstoneref05_Next.j0]
    · rw [if_neg g0]
      by_cases g4 : g > 3
      · rw [if_neg (show ¬ g = 3 by omega), if_neg (show ¬ g = 2 by omega), if_neg (show ¬ g = 1 by omega)]
        simp [touchstoneref05_Next.j0, g4]
      · rcases (show g = 1 ∨ g = 2 ∨ g = 3 by omega) with rfl | rfl | rfl
        · by_cases hm : c = 999999
          · simp [touchstoneref05_Next.j0, touchstoneref05_Next.j1, hm]
          · simp [touchstoneref05_Next.j0, touchstoneref05_Next.j1, hm, wc]
        · by_cases hm : b = 999999
          · simp [touchstoneref05_Next.j0, touchstoneref05_Next.j1, hm]
          · simp [touchstoneref05_Next.j0, touchstoneref05_Next.j1, hm, wb]
        · by_cases hm : a = 999999
          · simp [touchstoneref05_Next.j0, touchstoneref05_Next.j1, hm]
          · simp [touchstoneref05_Next.j0, touchstoneref05_Next.j1, hm, wa]
  · rw [if_neg hr, decide_eq_false hr]
    simp [touchstoneref05_Next.j0]

theorem nexts_j2 (alive : touchstonelaw05_alive.f = some true) (g a b c x y z n0 n1 n2 : Int) (hr : 0 ≤ a ∧ a ≤ 999999 ∧ 0 ≤ b ∧ b ≤ 999999 ∧ 0 ≤ c ∧ c ≤ 999999)
    (h : (g = 1 ∧ n0 = a ∧ n1 = b ∧ n2 = c + 1) ∨ (g = 2 ∧ n0 = a ∧ n1 = b + 1 ∧ n2 = 0) ∨ (g = 3 ∧ n0 = a + 1 ∧ n1 = 0 ∧ n2 = 0)) :
    touchstonelaw05_SemverNexts.j2 6 g a b c x y z n0 n1 n2 = some true := by
  unfold touchstonelaw05_SemverNexts.j2
  simp only [right_f, cmp_f 1, alive, Option.bind_some]
  have l1 := vcmp_lt a b c x y z
  have l2 := vcmp_lt x y z n0 n1 n2
  repeat' split
  all_goals first | rfl | (exfalso; simp only [decide_eq_true_eq] at *; omega)

theorem nexts_j1 (alive : touchstonelaw05_alive.f = some true) (g a b c x y z n0 n1 n2 : Int) (hr : 0 ≤ a ∧ a ≤ 999999 ∧ 0 ≤ b ∧ b ≤ 999999 ∧ 0 ≤ c ∧ c ≤ 999999)
    (hn : n0 ≤ 999999 ∧ n1 ≤ 999999 ∧ n2 ≤ 999999)
    (h : (g = 1 ∧ n0 = a ∧ n1 = b ∧ n2 = c + 1) ∨ (g = 2 ∧ n0 = a ∧ n1 = b + 1 ∧ n2 = 0) ∨ (g = 3 ∧ n0 = a + 1 ∧ n1 = 0 ∧ n2 = 0)) :
    touchstonelaw05_SemverNexts.j1 7 g a b c x y z n0 n1 n2 = some true := by
  unfold touchstonelaw05_SemverNexts.j1
  have l1 := vcmp_lt a b c n0 n1 n2
  have e1 : vgap a b c n0 n1 n2 = g := by
    unfold vgap
    repeat' split
    all_goals omega
  simp only [right_f, cmp_f 2, gap_f, e1, nexts_j2 alive g a b c x y z n0 n1 n2 hr h, Option.bind_some, if_true]
  rw [if_neg (show ¬ vcmp a b c n0 n1 n2 ≥ 0 by omega), if_pos (decide_eq_true (by omega))]

theorem nexts_true (alive : touchstonelaw05_alive.f = some true) (a b c g x y z : Int) : touchstonelaw05_SemverNexts.f 8 a b c g x y z = some true := by
  unfold touchstonelaw05_SemverNexts.f
  rw [rnext_f 6]
  have bad : ∀ e : Int, e ≠ 0 → semver_Next.f a b c g = some (0, 0, 0, e) → ((semver_Next.f a b c g).bind fun p => (semver_Next.f a b c g).bind fun q => if (!(p.1 == q.1) || (!(p.2.1 == q.2.1) || (!(p.2.2.1 == q.2.2.1)))) = true then (some false) else ((touchstonelaw01_No.f p.2.2.2).bind fun t => (if t = q.2.2.2 then (touchstonelaw05_SemverNexts.j0 8 g q.2.2.2 a b c x y z p.1 p.2.1 p.2.2.1) else (some false)))) = some true := by
    intro e he h
    simp [h, touchstonelaw01_No.f, touchstonelaw05_SemverNexts.j0, he, alive]
  have good : ∀ n0 n1 n2 : Int, semver_Next.f a b c g = some (n0, n1, n2, 0) → touchstonelaw05_SemverNexts.j1 7 g a b c x y z n0 n1 n2 = some true → ((semver_Next.f a b c g).bind fun p => (semver_Next.f a b c g).bind fun q => if (!(p.1 == q.1) || (!(p.2.1 == q.2.1) || (!(p.2.2.1 == q.2.2.1)))) = true then (some false) else ((touchstonelaw01_No.f p.2.2.2).bind fun t => (if t = q.2.2.2 then (touchstonelaw05_SemverNexts.j0 8 g q.2.2.2 a b c x y z p.1 p.2.1 p.2.2.1) else (some false)))) = some true := by
    intro n0 n1 n2 h h1
    simp [h, touchstonelaw01_No.f, touchstonelaw05_SemverNexts.j0, h1]
  by_cases hr : 0 ≤ a ∧ a ≤ 999999 ∧ 0 ≤ b ∧ b ≤ 999999 ∧ 0 ≤ c ∧ c ≤ 999999
  · by_cases g3 : g = 3
    · by_cases hm : a = 999999
      · exact bad 9 (by decide) (by unfold semver_Next.f; rw [if_pos hr, if_pos g3, if_pos hm])
      · exact good _ _ _ (by unfold semver_Next.f; rw [if_pos hr, if_pos g3, if_neg hm]) (nexts_j1 alive g a b c x y z _ _ _ hr (by omega) (by omega))
    · by_cases g2 : g = 2
      · by_cases hm : b = 999999
        · exact bad 9 (by decide) (by unfold semver_Next.f; rw [if_pos hr, if_neg g3, if_pos g2, if_pos hm])
        · exact good _ _ _ (by unfold semver_Next.f; rw [if_pos hr, if_neg g3, if_pos g2, if_neg hm]) (nexts_j1 alive g a b c x y z _ _ _ hr (by omega) (by omega))
      · by_cases g1 : g = 1
        · by_cases hm : c = 999999
          · exact bad 9 (by decide) (by unfold semver_Next.f; rw [if_pos hr, if_neg g3, if_neg g2, if_pos g1, if_pos hm])
          · exact good _ _ _ (by unfold semver_Next.f; rw [if_pos hr, if_neg g3, if_neg g2, if_pos g1, if_neg hm]) (nexts_j1 alive g a b c x y z _ _ _ hr (by omega) (by omega))
        · exact bad 2 (by decide) (by unfold semver_Next.f; rw [if_pos hr, if_neg g3, if_neg g2, if_neg g1])
  · exact bad 2 (by decide) (by unfold semver_Next.f; rw [if_neg hr])
theorem nexts_ex (a b c g x y z : Int) : ∃ k, touchstonelaw05_SemverNexts.f k a b c g x y z = some true := ⟨8, nexts_true alive_true a b c g x y z⟩
end Go.Proofs.YtaikpnenegifnaaDoor
