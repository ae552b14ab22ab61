/- TermVars as its row asks it: for all data that tell its arguments. -/
import Derived.Test.YtglgkhodminffaaGreatDoorPBaseV
import Derived.Test.YtglgkhodminffaaGreatDoorPVarsCV
namespace Go.Proofs.YtglgkhodminffaaGreatDoor.PV
open Px Go Go.RowKit Go.Proofs
set_option linter.unusedVariables false
set_option maxRecDepth 100000
theorem undT : und tb 24 = Tryz.prog.underlying 24 := by kernel_rfl
theorem undI : und tb 3 = some (.int .i64) := by kernel_rfl
theorem undS : und tb 9 = some .string := by kernel_rfl
theorem undB : und tb 4 = some .bool := by kernel_rfl
theorem undL : und tb 22 = some (.slice 24) := by kernel_rfl
theorem undN : und tb 29 = some (.slice 9) := by kernel_rfl
theorem tm_at {fz : Fz} {p : PV} {v : Value} (h : RelP tb fz 24 p v) : ∃ t : Tm, p = t.enc :=
  tm_of (undT.trans Tryz.underlying24) rfl rfl rfl rfl rfl undI undS undL (dp p) p v (Nat.le_refl _) h
theorem tms_at {fz : Fz} {p : PV} {v : Value} (h : RelP tb fz 22 p v) : ∃ l : List Tm, p = .node (l.map Tm.enc) := slice_of undL h fun q hq u hr => tm_at hr
theorem strs_at {fz : Fz} {p : PV} {v : Value} (h : RelP tb fz 29 p v) : ∃ l : List (List Nat), p = .node (l.map PV.str) := strs_of undN undS h
theorem wf_len {l : List PV} (h : WfP (.node l)) : l.length < 9223372036854775808 := by cases h; assumption
theorem vars_row {fz : Fz} (ps : List PV) (hl : ps.length = Tryz.f5.params.toList.length) (ht : ∀ (j : Nat) t p, Tryz.f5.params.toList[j]? = some t → ps[j]? = some p → WfP p ∧ ∃ v, RelP tb fz t p v) :
    ∃ k, callX tb k 5 (argsV tb Tryz.f5.params.toList ps) [] = some (.bool true, []) := by
  rw [Tryz.params5] at hl ht ⊢
  rcases ps with _ | ⟨p0, _ | ⟨p1, _ | ⟨p2, _ | ⟨p3, ps⟩⟩⟩⟩ <;> simp at hl
  obtain ⟨w0, v0, r0⟩ := ht 0 _ _ rfl rfl
  obtain ⟨_, v1, r1⟩ := ht 1 _ _ rfl rfl
  obtain ⟨w2, v2, r2⟩ := ht 2 _ _ rfl rfl
  obtain ⟨l, rfl⟩ := tms_at r0
  obtain ⟨t, rfl⟩ := tm_at r1
  obtain ⟨names, rfl⟩ := strs_at r2
  have w0 := wf_len w0
  have w2 := wf_len w2
  rw [List.length_map] at w0 w2
  obtain ⟨k, hk⟩ := (vars_true l t names w0 w2).ev.some
  refine ⟨k, ?_⟩
  have e : argsV tb (#[22, 24, 29] : Array Nat).toList [.node (l.map Tm.enc), t.enc, .node (names.map PV.str)] = [.pv 22 (.node (l.map Tm.enc)), .pv 24 t.enc, .pv 29 (.node (names.map PV.str))] := by kernel_rfl
  exact (congrArg (fun l => callX tb k 5 l []) e).trans hk
end Go.Proofs.YtglgkhodminffaaGreatDoor.PV
