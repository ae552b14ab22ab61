/- The law SemverReads' printed answer is true, in plain Lean; no program in sight. -/
import Derived.Test.YtaikpnenegifnaaDoorXMx10
import Derived.Test.YtaikpnenegifnaaDoorPurePkg
import Derived.Test.YtaikpnenegifnaaDoorPureAlive
namespace Go.Proofs.YtaikpnenegifnaaDoor
set_option linter.unusedSimpArgs false
set_option linter.unusedVariables false
open Go.RowKit Go.Proofs.YtaikpnenegifnaaDoorW.PrintWords Go.Proofs.YtaikpnenegifnaaDoor.XM

/-- What both tails of the law answer. -/
theorem reads_tail (alive : touchstonelaw05_alive.f = some true) (a b c : Int) :
    ((semver_Right.f a b c).bind fun t198 => (if t198 = true then ((semver_Print.f a b c).bind fun t199 => ((semver_Parse.f t199).bind fun bt200 => ((touchstonelaw01_No.f bt200.2.2.2).bind fun t205 => (if t205 = 0 then (if (bt200.1 == a && (bt200.2.1 == b && (bt200.2.2.1 == c))) = true then ((touchstonelaw05_alive.f).bind fun t206 => (some t206)) else (some false)) else (some false))))) else ((semver_Print.f a b c).bind fun t207 => (if t207.toList = ([] : List UInt8) then ((touchstonelaw05_alive.f).bind fun t208 => (some t208)) else (some false))))) = some true := by
  rw [right_f, Option.bind_some]
  by_cases h : 0 ≤ a ∧ a ≤ 999999 ∧ 0 ≤ b ∧ b ≤ 999999 ∧ 0 ≤ c ∧ c ≤ 999999
  · obtain ⟨a, rfl⟩ : ∃ n : Nat, a = n := ⟨a.toNat, by omega⟩
    obtain ⟨b, rfl⟩ : ∃ n : Nat, b = n := ⟨b.toNat, by omega⟩
    obtain ⟨c, rfl⟩ : ∃ n : Nat, c = n := ⟨c.toNat, by omega⟩
    have ha : a ≤ 999999 := by omega
    have hb : b ≤ 999999 := by omega
    have hc : c ≤ 999999 := by omega
    have la := decDigits_len ha
    have lb := decDigits_len hb
    have lc := decDigits_len hc
    have hs : (⟨(vtext a b c).toArray⟩ : ByteArray).size ≤ 1000 := by
      rw [bs_size]
      unfold vtext
      simp only [List.length_append, List.length_cons]
      omega
    rw [decide_eq_true h, if_pos rfl, print_f ha hb hc, Option.bind_some, parse_f _ hs, Option.bind_some]
    unfold parseR
    rw [show (⟨(vtext a b c).toArray⟩ : ByteArray).data.toList = vtext a b c from rfl, verL_text ha hb hc]
    simp [touchstonelaw01_No.f, alive]
  · rw [decide_eq_false h, if_neg (by decide), print_no h, Option.bind_some, if_pos (by rw [ByteArray.toList_eq]), alive]
    rfl

theorem reads_true (alive : touchstonelaw05_alive.f = some true) (s : ByteArray) (a b c : Int) : touchstonelaw05_SemverReads.f 3000 s a b c = some true := by
  unfold touchstonelaw05_SemverReads.f
  by_cases hs : (s.size : Int) > 1000
  · rw [if_pos hs, alive]; rfl
  · have hs' : s.size ≤ 1000 := by omega
    rw [if_neg hs, touchstonelaw05_SemverReads.j0, parse_f s hs', rparse_f s hs' 2999 (by decide), spin_f s hs', rpin_f s hs' 2999 (by decide)]
    simp only [Option.bind_some, touchstonelaw01_No.f, beq_self_eq_true, Bool.not_true, Bool.or_self, Bool.false_eq_true, if_false, if_true]
    rw [rprint_f 2999 (by decide) (by decide), rright_f, spkg_f s hs', rpkg_f s hs' 2999 (by omega)]
    obtain ⟨t, ht⟩ : ∃ t, semver_Print.f a b c = some t := by
      by_cases h : 0 ≤ a ∧ a ≤ 999999 ∧ 0 ≤ b ∧ b ≤ 999999 ∧ 0 ≤ c ∧ c ≤ 999999
      · obtain ⟨a, rfl⟩ : ∃ n : Nat, a = n := ⟨a.toNat, by omega⟩
        obtain ⟨b, rfl⟩ : ∃ n : Nat, b = n := ⟨b.toNat, by omega⟩
        obtain ⟨c, rfl⟩ : ∃ n : Nat, c = n := ⟨c.toNat, by omega⟩
        exact ⟨_, print_f (by omega) (by omega) (by omega)⟩
      · exact ⟨_, print_no h⟩
    rw [ht, right_f]
    simp only [Option.bind_some, if_true, bne_self_eq_false, Bool.false_eq_true, if_false]
    have tail := reads_tail alive a b c
    rw [touchstonelaw05_SemverReads.j1]
    have j3 : touchstonelaw05_SemverReads.j3 2998 a b c = some true := by rw [touchstonelaw05_SemverReads.j3]; exact tail
    have j2 : touchstonelaw05_SemverReads.j2 2998 a b c = some true := by rw [touchstonelaw05_SemverReads.j2]; exact tail
    rw [j2, j3]
    unfold parseR
    cases hv : verL s.data.toList with
    | none => rfl
    | some x =>
      obtain ⟨a', b', c'⟩ := x
      obtain ⟨hl, ha, hb, hc⟩ := verL_some hv
      simp only [if_true]
      rw [print_f ha hb hc, Option.bind_some, if_pos]
      rw [ByteArray.toList_eq, ByteArray.toList_eq, hl]
theorem reads_ex (s : ByteArray) (a b c : Int) : ∃ k, touchstonelaw05_SemverReads.f k s a b c = some true := ⟨3000, reads_true alive_true s a b c⟩
end Go.Proofs.YtaikpnenegifnaaDoor
