/- A slice of versions that a row is given, opened: the printed contracts' reading of it (Kd.C k44). -/
import Derived.Test.YtaikpnenegifnaaGreatDoorHLaid
import Derived.Test.YtaikpnenegifnaaGreatDoorXMx2
import Derived.Deep.Slices
import Derived.Deep.Strs
import Derived.DataElems
namespace Go.Proofs.YtaikpnenegifnaaGreatDoor
open Go.ChangeShapes Go.RowKit Go.Deep Go.Proofs.YtaikpnenegifnaaGreatDoorW.PrintWords Go.Proofs.YtaikpnenegifnaaGreatDoor.XM

theorem laidOutP : laidOutB Tryz.prog = true := by kernel_rfl
set_option maxRecDepth 100000 in
theorem open_vers {H : Type} {enc : TypeId × Value → H} {W : World} {v : Value} {d : DataW H} {p : List MemPlace} (hv : Value.okWide Tryz.prog W .any 0 42 v ∨ True) (h : DataW.Trod enc Tryz.prog W 0 (fun _ => true) true 42 v d p)
    (hs : ∃ (A : Option Addr) (n c : Nat), v = .slice A n c) :
    ∃ (A : Option Addr) (c : Nat) (l : List S44), v = .slice A l.length c ∧ l.length ≤ c ∧ Kd.C k44 W A l.length l := by
  obtain ⟨A, n, c, rfl⟩ := hs
  obtain ⟨fuel, hf⟩ := h
  rcases open_slice Tryz.underlying42 hf with ⟨h0, -⟩ | ⟨a, len, cap, m, n', D, Pl, h0, -, hl, hm, rfl, -, hx⟩
  · simp [Value.cells] at h0
    obtain ⟨rfl, rfl, rfl⟩ := h0
    exact ⟨none, 0, [], rfl, Nat.le_refl _, rfl, by simp, fun h => absurd h (by simp)⟩
  · simp [Value.cells] at h0
    obtain ⟨rfl, rfl, rfl⟩ := h0
    have hc3 : Tryz.prog.cellsOf 44 = 3 := by kernel_rfl
    rw [hc3] at hx
    have key : ∀ i, i < n → ∃ x : S44, ∀ j u, ([.int .i64 x.f0, .int .i64 x.f1, .int .i64 x.f2] : List Value)[j]? = some u → W.cell? (a.add (i * 3 + j)) = some u := by
      intro i hi
      obtain ⟨cs', h1, h2⟩ := hx i (show i < c by omega)
      obtain ⟨-, hlen, hcell⟩ := World.cells?_some h1
      obtain ⟨y0, y1, y2, m, -, -, t0, t1, t2⟩ := trod_struct3 Tryz.underlying44 h2
      match cs', hlen with
      | [c0, c1, c2], _ =>
        have hc1 : Tryz.prog.cellsOf 3 = 1 := by kernel_rfl
        simp only [hc1] at t0 t1 t2
        obtain ⟨z0, e0, -, -⟩ := DataW.trod_int Tryz.underlying3 t0
        obtain ⟨z1, e1, -, -⟩ := DataW.trod_int Tryz.underlying3 t1
        obtain ⟨z2, e2, -, -⟩ := DataW.trod_int Tryz.underlying3 t2
        simp at e0 e1 e2
        subst e0 e1 e2
        refine ⟨⟨z0, z1, z2⟩, fun j u hu => ?_⟩
        rw [← Addr.add_add]
        have hj : j < 3 := by
          rcases Nat.lt_or_ge j 3 with h | h
          · exact h
          · rw [List.getElem?_eq_none (by simpa using h)] at hu; cases hu
        have := hcell j hj
        rw [this]
        exact hu
    let f : Nat → S44 := fun i => if hi : i < n then (key i hi).choose else ⟨0, 0, 0⟩
    have hf' : ∀ i, i < n → ∀ j u, ([.int .i64 (f i).f0, .int .i64 (f i).f1, .int .i64 (f i).f2] : List Value)[j]? = some u → W.cell? (a.add (i * 3 + j)) = some u := by
      intro i hi
      have e : f i = (key i hi).choose := by simp only [f]; rw [dif_pos hi]
      rw [e]
      exact (key i hi).choose_spec
    refine ⟨some a, c, (List.range n).map f, by simp, by simpa using hl, ?_, ?_, fun _ => ⟨a, rfl, fun j x hx => ?_⟩⟩
    · simp
    · simp only [List.length_map, List.length_range]
      unfold maxLen at hm
      omega
    · have hj : j < n := by
        rcases Nat.lt_or_ge j n with h | h
        · exact h
        · rw [List.getElem?_eq_none (by simpa using h)] at hx; cases hx
      have ex : x = f j := by
        have : ((List.range n).map f)[j]? = some (f j) := by simp [hj]
        rw [this] at hx
        exact (Option.some.inj hx).symm
      subst ex
      exact ⟨_, rfl, k44_mk W (f j), hf' j hj⟩
end Go.Proofs.YtaikpnenegifnaaGreatDoor
