/- A term that a row hands in, opened: at whatever depth, it is a tree whose slices lie in memory. -/
import Derived.Test.YtglgkhodminffaaGreatDoorHOpensT
namespace Go.Proofs.YtglgkhodminffaaGreatDoor
open Go.ChangeShapes Go.RowKit Go.Deep Go.Proofs.YtglgkhodminffaaGreatDoorW.PrintWords Go.Proofs.YtglgkhodminffaaGreatDoor.XT
theorem list5 {α : Type} {cs : List α} (h : cs.length = 5) : ∃ c0 c1 c2 c3 c4, cs = [c0, c1, c2, c3, c4] := by
  rcases cs with _ | ⟨c0, _ | ⟨c1, _ | ⟨c2, _ | ⟨c3, _ | ⟨c4, _ | ⟨c5, cs⟩⟩⟩⟩⟩⟩ <;> simp at h
  exact ⟨_, _, _, _, _, rfl⟩
theorem open_termK {H : Type} {enc : TypeId × Value → H} {W : World} {base : Nat} {spare : Nat → Bool} {held : Bool} : ∀ (N fuel : Nat) (cs : List Value) (x : DataW H × List MemPlace), fuel ≤ N → DataW.trod enc Tryz.prog W base spare held fuel 24 cs = some x → ∃ a : S24, k24.K W a cs := by
  intro N
  induction N with
  | zero => intro fuel cs x hf h; obtain rfl : fuel = 0 := by omega
            obtain ⟨_, n, hn, _⟩ := open_field Tryz.underlying24 h; cases hn
  | succ N ih =>
    intro fuel cs x hf h
    obtain ⟨hl, n, rfl, hfs⟩ := open_field Tryz.underlying24 h
    have hl : cs.length = 5 := hl.trans (by kernel_rfl)
    obtain ⟨c0, c1, c2, c3, c4, rfl⟩ := list5 hl
    obtain ⟨y0, h0⟩ := hfs 0 _ rfl
    obtain ⟨y1, h1⟩ := hfs 1 _ rfl
    obtain ⟨y2, h2⟩ := hfs 2 _ rfl
    obtain ⟨y3, h3⟩ := hfs 3 _ rfl
    obtain ⟨y4, h4⟩ := hfs 4 _ rfl
    have w0 : Tryz.prog.cellsOf 3 = 1 := by kernel_rfl
    have w1 : Tryz.prog.cellsOf 9 = 1 := by kernel_rfl
    have w2 : Tryz.prog.cellsOf 22 = 1 := by kernel_rfl
    have g0 : DataW.trod enc Tryz.prog W base spare held n 3 (List.take (Tryz.prog.cellsOf 3) [c0, c1, c2, c3, c4]) = some y0 := h0
    rw [w0] at g0
    have g1 : DataW.trod enc Tryz.prog W base spare held n 9 (List.take (Tryz.prog.cellsOf 9) [c1, c2, c3, c4]) = some y1 := h1
    rw [w1] at g1
    have g2 : DataW.trod enc Tryz.prog W base spare held n 9 (List.take (Tryz.prog.cellsOf 9) [c2, c3, c4]) = some y2 := h2
    rw [w1] at g2
    have g3 : DataW.trod enc Tryz.prog W base spare held n 3 (List.take (Tryz.prog.cellsOf 3) [c3, c4]) = some y3 := h3
    rw [w0] at g3
    have g4 : DataW.trod enc Tryz.prog W base spare held n 22 (List.take (Tryz.prog.cellsOf 22) [c4]) = some y4 := h4
    rw [w2] at g4
    obtain ⟨a0, e0, _, _⟩ := DataW.trod_int Tryz.underlying3 g0
    obtain ⟨a1, e1, _, _⟩ := DataW.trod_string Tryz.underlying9 g1
    obtain ⟨a2, e2, _, _⟩ := DataW.trod_string Tryz.underlying9 g2
    obtain ⟨a3, e3, _, _⟩ := DataW.trod_int Tryz.underlying3 g3
    obtain ⟨A, c, l, e4, hc, _, hC, _⟩ := open_sliceK (d := k24) (rg := fun _ => True) Tryz.underlying22 (by kernel_rfl) g4 (fun m cs' y hm hy => by
      obtain ⟨a, ha⟩ := ih m cs' y (by omega) hy
      exact ⟨a, ha, trivial⟩)
    simp at e0 e1 e2 e3 e4
    subst e0 e1 e2 e3 e4
    exact ⟨⟨a0, a1, a2, a3, l⟩, k24_mk W ⟨a0, a1, a2, a3, l⟩ hc hC⟩
/-- The same, by its parts. -/
theorem open_term {H : Type} {enc : TypeId × Value → H} {W : World} {base : Nat} {spare : Nat → Bool} {held : Bool} {fuel : Nat} {cs : List Value} {x : DataW H × List MemPlace} (h : DataW.trod enc Tryz.prog W base spare held fuel 24 cs = some x) :
    ∃ (a : S24) (A : Option Addr) (c : Nat), cs = [.int .i64 a.f0, .string a.f1, .string a.f2, .int .i64 a.f3, .slice A a.f4.length c] ∧ a.f4.length ≤ c ∧ Kd.C k24 W A a.f4.length a.f4 := by
  obtain ⟨a, ha⟩ := open_termK fuel fuel cs x (Nat.le_refl _) h
  obtain ⟨A, c, h1, h2, h3⟩ := k24_open ha
  exact ⟨a, A, c, h1, h2, h3⟩
end Go.Proofs.YtglgkhodminffaaGreatDoor
