/- The tables tell the program; alive answers true (by a plain run of the loaded program, reckoned by the kernel). -/
import Derived.Test.YtglgkhodminffaaGreatDoorEv2
import Derived.Ground.GgzProg
import Derived.Test.YtglgkhodminffaaGreatDoorFV
namespace Go.Proofs
open Go.RowKit Go.Maps Go.Sort Go.Shelf
shelf_lay_g SlLaysZ.n10 Ggz 10 at Tryz 64 as Tryz.evKeys
shelf_lay_g SlLaysZ.n11 Ggz 11 at Tryz 70 as Tryz.evSeq
end Go.Proofs
namespace Go.Proofs.YtglgkhodminffaaGreatDoor.PV
section
open Go.RowKit Ev
noncomputable def given7 (f : FuncId) : Option (List AV → (AV → E) → E) := bif Nat.beq f 70 then some (gSeq 64) else none
theorem given7_ok {σ : Nat → Value} {B : Nat} {w0 : World} (f : FuncId) (g : List AV → (AV → E) → E) (h : given7 f = some g) (Φ : Res → Prop) (cE : Nat) (hΦ : ∀ q, Φ q → q.2.2.1 ≤ cE) : FnOk Tryz.prog σ B w0 Φ cE f g := by
  unfold given7 at h
  cases e : Nat.beq f 70 with
  | false => rw [e] at h; cases h
  | true =>
    rw [e] at h
    simp only [cond_true, Option.some.injEq] at h
    subst h
    have hf : f = 70 := by rwa [Nat.beq_eq] at e
    subst hf
    exact gSeq_ok (ρ := Tryz.evKeys_ren) (ρ' := Tryz.evSeq_ren) Tryz.evKeys Tryz.evSeq hΦ
theorem noGor : (Tryz.prog.funcs.toList.all fun fn => fn.name != "runtime.NumGoroutine") = true := by kernel_rfl
theorem mixed7 : Tryz.prog.follows .mixedOrders = true := by kernel_rfl
set_option maxRecDepth 100000 in
theorem run7 : allT ((callE (tabOf Tryz.prog given7) (codeE (tabOf Tryz.prog given7) 100000) 8 [] .pure).run .leaf 0 0 Foot.empty) = true := by kernel_rfl
theorem alive_calls (w : World) : Calls Tryz.prog 8 #[] w fun e w' => e = .returned (.bool true) ∧ Below w.heap.size w w' :=
  alive_of_run Tryz.func8 rfl (by decide) (fun B w0 => tabOf_ok mixed7 noGor given7_ok) run7 w
end
section
open Px Go Go.RowKit
theorem fnLook {f : FuncId} {fn : Func} (h : Tryz.prog.funcs[f]? = some fn) : tb.fn.look f = some fn := by
  show (T.ofL Tryz.prog.funcs.toList 0 .leaf).look f = some fn
  rw [T.look_ofL0, Array.getElem?_toList]; exact h
theorem tbBase : TabOk Tryz.prog tb := by
  have b := (Px.tabOf_ok (P := Tryz.prog) (given := fun _ => none) (inl := fun _ => false) (grow := fun _ _ => false) (marks := []) mixed7 noGor (fun f fn args objs p ls _ h => by cases h)).base
  exact ⟨b.ty, b.fn, b.flat, b.mixed⟩
theorem tbOk : AllOk Tryz.prog tb := Px.tabOf_ok mixed7 noGor (alive_given tbBase (f := 8) (fn := Tryz.f8) (by decide) (fnLook Tryz.func8) rfl rfl (by kernel_rfl) alive_calls)
end
end Go.Proofs.YtglgkhodminffaaGreatDoor.PV
