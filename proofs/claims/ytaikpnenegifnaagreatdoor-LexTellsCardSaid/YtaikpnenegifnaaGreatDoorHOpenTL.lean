import Derived.Test.YtaikpnenegifnaaGreatDoorHLaid
import Derived.Test.YtaikpnenegifnaaGreatDoorG0
import Derived.Test.YtaikpnenegifnaaGreatDoorG14
import Derived.Deep.Slices
import Derived.Deep.Strs
import Derived.DataElems
/- A slice of tokens that a row is given, opened: the printed contracts' reading of it; each number is an int. -/
namespace Go.Proofs.YtaikpnenegifnaaGreatDoor
open Go.ChangeShapes Go.RowKit Go.Deep Go.Proofs.YtaikpnenegifnaaGreatDoorW.PrintWords Go.Proofs.YtaikpnenegifnaaGreatDoor.XL

theorem laidOutP : laidOutB Tryz.prog = true := by kernel_rfl
theorem trod_struct4 {P : Program} {H : Type} {enc : TypeId × Value → H} {w : World} {base : Nat} {spare : Nat → Bool} {held : Bool} {t : TypeId} {f0 f1 f2 f3 : Field} {fuel : Nat} {cs : List Value} {x : DataW H × List MemPlace} (ht : P.underlying t = some (.struct #[f0, f1, f2, f3])) (h : DataW.trod enc P w base spare held fuel t cs = some x) :
    ∃ y0 y1 y2 y3 n, cs.length = P.cellsOf t ∧ DataW.trod enc P w base spare held n f0.type ((cs.drop f0.offset).take (P.cellsOf f0.type)) = some y0 ∧
      DataW.trod enc P w base spare held n f1.type ((cs.drop f1.offset).take (P.cellsOf f1.type)) = some y1 ∧ DataW.trod enc P w base spare held n f2.type ((cs.drop f2.offset).take (P.cellsOf f2.type)) = some y2 ∧ DataW.trod enc P w base spare held n f3.type ((cs.drop f3.offset).take (P.cellsOf f3.type)) = some y3 := by
  obtain ⟨xs, n, _, rfl, hl, hlen, hf⟩ := DataW.trod_struct ht h
  match xs, hlen with
  | [y0, y1, y2, y3], _ => exact ⟨y0, y1, y2, y3, n, hl, by simpa using hf 0 f0 rfl, by simpa using hf 1 f1 rfl, by simpa using hf 2 f2 rfl, by simpa using hf 3 f3 rfl⟩
set_option maxRecDepth 100000 in
theorem open_toks {H : Type} {enc : TypeId × Value → H} {W : World} {v : Value} {d : DataW H} {p : List MemPlace} (h : DataW.Trod enc Tryz.prog W 0 (fun _ => true) true 22 v d p)
    (hs : ∃ (A : Option Addr) (n c : Nat), v = .slice A n c) :
    ∃ (A : Option Addr) (c : Nat) (l : List S32), v = .slice A l.length c ∧ l.length ≤ c ∧ Kd.C k32 W A l.length l ∧ ∀ x ∈ l, rangeTok x := by
  obtain ⟨A, n, c, rfl⟩ := hs
  obtain ⟨fuel, hf⟩ := h
  rcases open_slice Tryz.underlying22 hf with ⟨h0, -⟩ | ⟨a, len, cap, m, n', D, Pl, h0, -, hl, hm, rfl, -, hx⟩
  · simp [Value.cells] at h0
    obtain ⟨rfl, rfl, rfl⟩ := h0
    exact ⟨none, 0, [], rfl, Nat.le_refl _, ⟨rfl, by simp, fun h => absurd h (by simp)⟩, fun x hx => by cases hx⟩
  · simp [Value.cells] at h0
    obtain ⟨rfl, rfl, rfl⟩ := h0
    have hc4 : Tryz.prog.cellsOf 32 = 4 := by kernel_rfl
    rw [hc4] at hx
    have key : ∀ i, i < n → ∃ x : S32, rangeTok x ∧ ∀ j u, ([.int .i64 x.f0, .string x.f1, .int .i64 x.f2, .int .i64 x.f3] : List Value)[j]? = some u → W.cell? (a.add (i * 4 + j)) = some u := by
      intro i hi
      obtain ⟨cs', h1, h2⟩ := hx i (show i < c by omega)
      obtain ⟨-, hlen, hcell⟩ := World.cells?_some h1
      obtain ⟨y0, y1, y2, y3, m, -, t0, t1, t2, t3⟩ := trod_struct4 Tryz.underlying32 h2
      match cs', hlen with
      | [c0, c1, c2, c3], _ =>
        have hc1 : Tryz.prog.cellsOf 3 = 1 := by kernel_rfl
        have hcs : Tryz.prog.cellsOf 9 = 1 := by kernel_rfl
        simp only [hc1, hcs] at t0 t1 t2 t3
        obtain ⟨z0, e0, -, -⟩ := DataW.trod_int Tryz.underlying3 t0
        obtain ⟨z1, e1, -, -⟩ := DataW.trod_string Tryz.underlying9 t1
        obtain ⟨z2, e2, -, w2⟩ := DataW.trod_int Tryz.underlying3 t2
        obtain ⟨z3, e3, -, -⟩ := DataW.trod_int Tryz.underlying3 t3
        simp at e0 e1 e2 e3
        subst e0 e1 e2 e3
        refine ⟨⟨z0, z1, z2, z3⟩, ?_, fun j u hu => ?_⟩
        · simp [Lit.wf, IntKind.min, IntKind.max, IntKind.signed, IntKind.bits] at w2
          exact ⟨by show -9223372036854775808 ≤ z2; omega, by show z2 ≤ 9223372036854775807; omega⟩
        · rw [← Addr.add_add]
          have hj : j < 4 := by
            rcases Nat.lt_or_ge j 4 with h | h
            · exact h
            · rw [List.getElem?_eq_none (by simpa using h)] at hu; cases hu
          have := hcell j hj
          rw [this]
          exact hu
    let f : Nat → S32 := fun i => if hi : i < n then (key i hi).choose else ⟨0, ⟨#[]⟩, 0, 0⟩
    have hf0 : ∀ i, i < n → rangeTok (f i) ∧ ∀ j u, ([.int .i64 (f i).f0, .string (f i).f1, .int .i64 (f i).f2, .int .i64 (f i).f3] : List Value)[j]? = some u → W.cell? (a.add (i * 4 + j)) = some u := by
      intro i hi
      have e : f i = (key i hi).choose := by simp only [f]; rw [dif_pos hi]
      rw [e]
      exact (key i hi).choose_spec
    refine ⟨some a, c, (List.range n).map f, by simp, by simpa using hl, ⟨?_, ?_, fun _ => ⟨a, rfl, fun j x hx => ?_⟩⟩, fun x hx => ?_⟩
    · simp
    · simp only [List.length_map, List.length_range]
      unfold maxLen at hm
      omega
    · have hj : j < n := by
        rcases Nat.lt_or_ge j n with h | h
        · exact h
        · rw [List.getElem?_eq_none (by simpa using h)] at hx; cases hx
      have ex : x = f j := by
        have : ((List.range n).map f)[j]? = some (f j) := by simp [hj]
        rw [this] at hx
        exact (Option.some.inj hx).symm
      subst ex
      exact ⟨_, rfl, k32_mk W (f j), (hf0 j hj).2⟩
    · rw [List.mem_map] at hx
      obtain ⟨i, hi, rfl⟩ := hx
      exact (hf0 i (List.mem_range.1 hi)).1
end Go.Proofs.YtaikpnenegifnaaGreatDoor
