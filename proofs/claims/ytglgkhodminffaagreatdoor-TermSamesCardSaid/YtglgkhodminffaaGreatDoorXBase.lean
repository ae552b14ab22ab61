/- What the session's contracts ask of a world: its package-level variables are of their types; the table of powers of ten holds its numbers; the error value of a bad numeral is an interface value. It is kept by every step that leaves the old blocks alone. -/
import Derived.Test.YtglgkhodminffaaGreatDoorProg
import Derived.Below
import Derived.ChangeAgain
import Derived.WalkSmall
import Derived.Lib.LaidTab
import Derived.Lib.ItoaNum
namespace Go.Proofs.YtglgkhodminffaaGreatDoor
open Go.RowKit
structure EnvOk (w : World) : Prop where
  shaped : w.ShapedOpen Tryz.prog
  pow10 : Lib.TabIs Tryz.prog w "internal/strconv.uint64pow10" .u64 Lib.pow10Tab
  syn : ∃ tp p, w.var? Tryz.prog "strconv.ErrSyntax" = some #[.iface tp p]

theorem var_kept {P : Program} {w w' : World} {n : String} {cs : Array Value} (hb : Below w.heap.size w w') (h : w.var? P n = some cs) : w'.var? P n = some cs := by
  unfold World.var? at h ⊢
  cases hg : P.globalNamed n with
  | none => simp [hg] at h
  | some g =>
    simp only [hg, Option.bind_some] at h ⊢
    rcases Nat.lt_or_ge g w.heap.size with hl | hl
    · rw [hb.block g hl]; exact h
    · simp [Array.getElem?_eq_none hl] at h

theorem EnvOk.below {w w' : World} (h : EnvOk w) (hb : Below w.heap.size w w') : EnvOk w' where
  shaped := h.shaped.keptBut (hb.frame fun _ => False) (fun _ h => h.elim)
  pow10 := var_kept hb h.pow10
  syn := by obtain ⟨tp, p, h⟩ := h.syn; exact ⟨tp, p, var_kept hb h⟩

theorem EnvOk.drew {w : World} (h : EnvOk w) : EnvOk w.drew := h.below (Below.refl _ _).drew
theorem EnvOk.drewN {w : World} (h : EnvOk w) (n : Nat) : EnvOk (w.drewN n) := h.below ⟨rfl, rfl, rfl, Nat.le_refl _, fun _ _ => rfl⟩
/-- Twenty times a number that is at most 5000. -/
theorem w20 {z : Int} (h0 : 0 ≤ z) (h1 : z ≤ 5000) : wrap64 (20 * z) = 20 * z := by unfold wrap64; omega
end Go.Proofs.YtglgkhodminffaaGreatDoor
