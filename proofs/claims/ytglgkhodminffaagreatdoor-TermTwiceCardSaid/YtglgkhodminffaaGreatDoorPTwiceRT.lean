/- TermTwice as its row asks it: for all data that tell its arguments. -/
import Derived.Test.YtglgkhodminffaaGreatDoorPBaseT
import Derived.Test.YtglgkhodminffaaGreatDoorPTwiceT
namespace Go.Proofs.YtglgkhodminffaaGreatDoor.PT
open Px Go Go.RowKit Go.Proofs
set_option linter.unusedVariables false
set_option maxRecDepth 100000
theorem undT : und tb 24 = Tryz.prog.underlying 24 := by kernel_rfl
theorem undI : und tb 3 = some (.int .i64) := by kernel_rfl
theorem undS : und tb 9 = some .string := by kernel_rfl
theorem undB : und tb 4 = some .bool := by kernel_rfl
theorem undL : und tb 22 = some (.slice 24) := by kernel_rfl
theorem undN : und tb 29 = some (.slice 9) := by kernel_rfl
theorem tm_at {fz : Fz} {p : PV} {v : Value} (h : RelP tb fz 24 p v) : ∃ t : Tm, p = t.enc :=
  tm_of (undT.trans Tryz.underlying24) rfl rfl rfl rfl rfl undI undS undL (dp p) p v (Nat.le_refl _) h
theorem tms_at {fz : Fz} {p : PV} {v : Value} (h : RelP tb fz 22 p v) : ∃ l : List Tm, p = .node (l.map Tm.enc) := slice_of undL h fun q hq u hr => tm_at hr
theorem strs_at {fz : Fz} {p : PV} {v : Value} (h : RelP tb fz 29 p v) : ∃ l : List (List Nat), p = .node (l.map PV.str) := strs_of undN undS h
theorem list5 {α : Type} {cs : List α} (h : cs.length = 5) : ∃ c0 c1 c2 c3 c4, cs = [c0, c1, c2, c3, c4] := by
  rcases cs with _ | ⟨c0, _ | ⟨c1, _ | ⟨c2, _ | ⟨c3, _ | ⟨c4, _ | ⟨c5, cs⟩⟩⟩⟩⟩⟩ <;> simp at h
  exact ⟨_, _, _, _, _, rfl⟩
theorem twice_row {fz : Fz} (ps : List PV) (hl : ps.length = Tryz.f6.params.toList.length) (ht : ∀ (j : Nat) t p, Tryz.f6.params.toList[j]? = some t → ps[j]? = some p → WfP p ∧ ∃ v, RelP tb fz t p v) :
    ∃ k, callX tb k 6 (argsV tb Tryz.f6.params.toList ps) [] = some (.bool true, []) := by
  rw [Tryz.params6] at hl ht ⊢
  obtain ⟨p0, p1, p2, p3, p4, rfl⟩ := list5 hl
  obtain ⟨_, v0, r0⟩ := ht 0 _ _ rfl rfl
  obtain ⟨_, v1, r1⟩ := ht 1 _ _ rfl rfl
  obtain ⟨_, v2, r2⟩ := ht 2 _ _ rfl rfl
  obtain ⟨_, v3, r3⟩ := ht 3 _ _ rfl rfl
  obtain ⟨_, v4, r4⟩ := ht 4 _ _ rfl rfl
  obtain ⟨t, rfl⟩ := tm_at r0
  obtain ⟨x, rfl⟩ := tm_at r1
  obtain ⟨y, rfl⟩ := tm_at r2
  obtain ⟨a, rfl⟩ := str_of undS r3
  obtain ⟨b, rfl⟩ := str_of undS r4
  obtain ⟨k, hk⟩ := (twice_true t x y a b).ev.some
  refine ⟨k, ?_⟩
  have e : argsV tb (#[24, 24, 24, 9, 9] : Array Nat).toList [t.enc, x.enc, y.enc, .str a, .str b] = [.pv 24 t.enc, .pv 24 x.enc, .pv 24 y.enc, .str a, .str b] := by kernel_rfl
  exact (congrArg (fun l => callX tb k 6 l []) e).trans hk
end Go.Proofs.YtglgkhodminffaaGreatDoor.PT
