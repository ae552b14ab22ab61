/- What a row's arguments are, opened at any depth: a slice's elements one by one, a struct by its fields, a type that is nested in itself by the datum's own depth. -/
import Derived.Test.YtglgkhodminffaaGreatDoorXTx0
import Derived.Deep.Slices
import Derived.Deep.Strs
import Derived.DataElems
namespace Go.Proofs.YtglgkhodminffaaGreatDoor
open Go.ChangeShapes Go.RowKit Go.Deep Go.Proofs.YtglgkhodminffaaGreatDoorW.PrintWords Go.Proofs.YtglgkhodminffaaGreatDoor.XT

/-- A slice whose elements can be opened. -/
theorem open_sliceK {P : Program} {H : Type} {enc : TypeId × Value → H} {W : World} {base : Nat} {spare : Nat → Bool} {held : Bool} {α : Type} {d : Kd α} {rg : α → Prop} {t e : TypeId} (ht : P.underlying t = some (.slice e)) (hsz : P.cellsOf e = d.sz)
    {fuel : Nat} {cs : List Value} {x : DataW H × List MemPlace} (h : DataW.trod enc P W base spare held fuel t cs = some x)
    (hel : ∀ m cs' y, m < fuel → DataW.trod enc P W base spare held m e cs' = some y → ∃ a, d.K W a cs' ∧ rg a) :
    ∃ A c l, cs = [.slice A l.length c] ∧ l.length ≤ c ∧ c ≤ maxLen ∧ d.C W A l.length l ∧ ∀ a ∈ l, rg a := by
  rcases DataW.trod_slice ht h with ⟨rfl, -⟩ | ⟨a, len, cap, elems, rest, m, rfl, rfl, -, -, hl, hm, hlen, hx, -⟩
  · exact ⟨none, 0, [], rfl, Nat.le_refl _, Nat.zero_le _, ⟨rfl, by simp, fun h => absurd h (by simp)⟩, fun x hx => by cases hx⟩
  · have key : ∀ i, i < len → ∃ b : α, rg b ∧ ∃ c : List Value, c.length = d.sz ∧ d.K W b c ∧ ∀ j u, c[j]? = some u → W.cell? (a.add (i * d.sz + j)) = some u := by
      intro i hi
      have h1 := hx i hi
      rw [List.getElem?_eq_getElem (by omega)] at h1
      obtain ⟨cs', h2, h3⟩ := Option.bind_eq_some_iff.1 h1
      obtain ⟨-, hcl, hcell⟩ := World.cells?_some h2
      obtain ⟨b, hb, hr⟩ := hel m cs' _ (Nat.lt_succ_self m) h3
      refine ⟨b, hr, cs', hcl.trans hsz, hb, fun j u hu => ?_⟩
      rw [← Addr.add_add, ← hsz]
      have hj : j < cs'.length := by
        rcases Nat.lt_or_ge j cs'.length with h | h
        · exact h
        · rw [List.getElem?_eq_none h] at hu; cases hu
      have := hcell j (by omega)
      rw [this]
      exact hu
    have key2 : ∀ i : Fin len, ∃ b : α, rg b ∧ ∃ c : List Value, c.length = d.sz ∧ d.K W b c ∧ ∀ j u, c[j]? = some u → W.cell? (a.add (i.1 * d.sz + j)) = some u := fun i => key i.1 i.2
    let f : Fin len → α := fun i => (key2 i).choose
    have hf : ∀ i, rg (f i) ∧ ∃ c : List Value, c.length = d.sz ∧ d.K W (f i) c ∧ ∀ j u, c[j]? = some u → W.cell? (a.add (i.1 * d.sz + j)) = some u := fun i => (key2 i).choose_spec
    have hll : (List.ofFn f).length = len := List.length_ofFn
    refine ⟨some a, cap, List.ofFn f, by rw [hll], by omega, hm, ⟨rfl, by rw [hll]; unfold maxLen at hm; omega, fun _ => ⟨a, rfl, fun j p hp => ?_⟩⟩, fun b hb => ?_⟩
    · have hj : j < len := by
        rcases Nat.lt_or_ge j len with h | h
        · exact h
        · rw [List.getElem?_eq_none (by omega)] at hp; cases hp
      rw [List.getElem?_ofFn, dif_pos hj] at hp
      injection hp with hp
      subst hp
      exact (hf ⟨j, hj⟩).2
    · obtain ⟨i, rfl⟩ := List.mem_ofFn.1 hb
      exact (hf i).1
/-- A struct's fields, one by one. -/
theorem open_field {P : Program} {H : Type} {enc : TypeId × Value → H} {W : World} {base : Nat} {spare : Nat → Bool} {held : Bool} {t : TypeId} {fs : Array Field} {fuel : Nat} {cs : List Value} {x : DataW H × List MemPlace} (ht : P.underlying t = some (.struct fs)) (h : DataW.trod enc P W base spare held fuel t cs = some x) :
    cs.length = P.cellsOf t ∧ ∃ n, fuel = n + 1 ∧ ∀ (i : Nat) (f : Field), fs[i]? = some f → ∃ y, DataW.trod enc P W base spare held n f.type ((cs.drop f.offset).take (P.cellsOf f.type)) = some y := by
  obtain ⟨xs, n, rfl, rfl, hl, hlen, hf⟩ := DataW.trod_struct ht h
  refine ⟨hl, n, rfl, fun i f hi => ?_⟩
  have h1 := hf i f hi
  have hi' : i < xs.length := by
    rw [hlen]
    rcases Nat.lt_or_ge i fs.size with h | h
    · exact h
    · rw [Array.getElem?_eq_none h] at hi; cases hi
  rw [List.getElem?_eq_getElem hi'] at h1
  exact ⟨_, h1⟩
end Go.Proofs.YtglgkhodminffaaGreatDoor
