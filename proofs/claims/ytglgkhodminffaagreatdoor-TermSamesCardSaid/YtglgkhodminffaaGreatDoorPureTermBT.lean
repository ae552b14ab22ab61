/- The statement TermSames in plain Lean: whatever the two terms, the law's function answers true. -/
import Derived.Test.YtglgkhodminffaaGreatDoorPureTermAT
namespace Go.Proofs.YtglgkhodminffaaGreatDoor
set_option linter.unusedVariables false
set_option linter.unusedSimpArgs false
open Go.RowKit Go.Proofs.YtglgkhodminffaaGreatDoorW.PrintWords Go.Proofs.YtglgkhodminffaaGreatDoorW.PrintMore Go.Proofs.YtglgkhodminffaaGreatDoor.XT

theorem mn_b (n : Nat) : 0 ≤ mn (n : Int) 100000 ∧ mn (n : Int) 100000 ≤ 100000 := by unfold mn; split <;> omega
/-- What is told of a term's weight. -/
def Weighs (d : Int) (x : S24) : Prop := ∃ v, (∀ k, fuelT x ≤ k → touchstonelaw07_weight.f k x.f0 x.f1 x.f2 x.f3 x.f4 d = some v) ∧ 0 ≤ v ∧ v ≤ 100000 ∧ (v ≤ 600 → smallT x)
theorem weight_l0 (d : Int) (hd0 : 0 ≤ d) (hd1 : d ≤ 90) (a0 a3 : Int) (a1 a2 : ByteArray) : ∀ (suf l pre : List S24) (acc : Int), l = pre ++ suf → l.length ≤ 300 → 0 ≤ acc → acc ≤ 200000 → (∀ x ∈ suf, Weighs (d + 1) x) →
    ∃ v, (∀ k, fuelL suf ≤ k → touchstonelaw07_weight.l0 k d acc (l.length : Int) (pre.length : Int) a0 a1 a2 a3 l = some v) ∧ 0 ≤ v ∧ v ≤ 100000 ∧ (v ≤ 600 → acc ≤ 600 ∧ smallL suf)
  | [], l, pre, acc, hl, hb, h0, h1, hf => by
    refine ⟨mn acc 100000, fun k hk => ?_, ?_, ?_, fun h => ⟨?_, by rw [smallL]; trivial⟩⟩
    · obtain ⟨k, rfl⟩ : ∃ k', k = k' + 1 := ⟨k - 1, by rw [fuelL] at hk; omega⟩
      rw [touchstonelaw07_weight.l0, if_neg (by rw [hl]; simp)]
    · unfold mn; split <;> omega
    · unfold mn; split <;> omega
    · unfold mn at h; split at h <;> omega
  | x :: xs, l, pre, acc, hl, hb, h0, h1, hf => by
    obtain ⟨t, ht, t0, t1, t2⟩ := hf x (List.mem_cons_self ..)
    have hlen : l.length = pre.length + xs.length + 1 := by rw [hl]; simp; omega
    by_cases hlt : acc < 100000
    · obtain ⟨v, hv, v0, v1, v2⟩ := weight_l0 d hd0 hd1 a0 a3 a1 a2 xs l (pre ++ [x]) (acc + t) (by rw [hl]; simp) hb (by omega) (by omega) (fun y hy => hf y (List.mem_cons_of_mem _ hy))
      refine ⟨v, fun k hk => ?_, v0, v1, fun h => ?_⟩
      · rw [fuelL] at hk
        obtain ⟨k, rfl⟩ : ∃ k', k = k' + 1 := ⟨k - 1, by omega⟩
        rw [touchstonelaw07_weight.l0, if_pos (by omega), if_pos hlt, if_pos (by omega), if_pos (by omega), rd_here hl, w64t (n := d + 1) (by omega) (by omega), ht k (by omega), Option.bind_some, next_len hl hb, w64t (n := acc + t) (by omega) (by omega)]
        exact hv k (by omega)
      · obtain ⟨q1, q2⟩ := v2 h
        rw [smallL]
        exact ⟨by omega, t2 (by omega), q2⟩
    · obtain ⟨v, hv, v0, v1, v2⟩ := weight_l0 d hd0 hd1 a0 a3 a1 a2 xs l (pre ++ [x]) acc (by rw [hl]; simp) hb h0 h1 (fun y hy => hf y (List.mem_cons_of_mem _ hy))
      refine ⟨v, fun k hk => ?_, v0, v1, fun h => ?_⟩
      · rw [fuelL] at hk
        obtain ⟨k, rfl⟩ : ∃ k', k = k' + 1 := ⟨k - 1, by omega⟩
        rw [touchstonelaw07_weight.l0, if_pos (by omega), if_neg hlt, next_len hl hb]
        exact hv k (by omega)
      · have := (v2 h).1; omega
theorem weighs : ∀ (n : Nat) (x : S24), SizeOf.sizeOf x ≤ n → ∀ d, 0 ≤ d → d ≤ 91 → Weighs d x
  | 0, ⟨a0, a1, a2, a3, l⟩, hn, _, _, _ => by simp at hn
  | n + 1, ⟨a0, a1, a2, a3, l⟩, hn, d, h0, h1 => by
    have hpos := fuelL_pos l
    have hj : ∀ k q, touchstonelaw07_weight.j0 (k + 1) d q a0 a1 a2 a3 l = if q = true then some 100000 else touchstonelaw07_weight.l0 k d (1 + ((mn (a1.size : Int) 100000) + (mn (a2.size : Int) 100000)) / 20) (l.length : Int) 0 a0 a1 a2 a3 l := fun k q => by rw [touchstonelaw07_weight.j0]
    have hf : ∀ k, touchstonelaw07_weight.f (k + 1 + 1) a0 a1 a2 a3 l d = if d > 90 then touchstonelaw07_weight.j0 (k + 1) d true a0 a1 a2 a3 l else touchstonelaw07_weight.j0 (k + 1) d (decide ((l.length : Int) > 300)) a0 a1 a2 a3 l := fun k => by rw [touchstonelaw07_weight.f]
    by_cases hd : d > 90
    · refine ⟨100000, fun k hk => ?_, by omega, by omega, fun h => by omega⟩
      rw [fuelT] at hk
      obtain ⟨k, rfl⟩ : ∃ k', k = k' + 1 + 1 := ⟨k - 2, by omega⟩
      show touchstonelaw07_weight.f (k + 1 + 1) a0 a1 a2 a3 l d = _
      rw [hf, if_pos hd, hj, if_pos rfl]
    · by_cases hl : (l.length : Int) > 300
      · refine ⟨100000, fun k hk => ?_, by omega, by omega, fun h => by omega⟩
        rw [fuelT] at hk
        obtain ⟨k, rfl⟩ : ∃ k', k = k' + 1 + 1 := ⟨k - 2, by omega⟩
        show touchstonelaw07_weight.f (k + 1 + 1) a0 a1 a2 a3 l d = _
        rw [hf, if_neg hd, hj, if_pos (decide_eq_true hl)]
      · have m1 := mn_b a1.size
        have m2 := mn_b a2.size
        obtain ⟨v, hv, v0, v1, v2⟩ := weight_l0 d h0 (by omega) a0 a3 a1 a2 l l [] (1 + ((mn (a1.size : Int) 100000) + (mn (a2.size : Int) 100000)) / 20) rfl (by omega) (by omega) (by omega)
          (fun x hx => weighs n x (by have := List.sizeOf_lt_of_mem hx; simp at hn; omega) (d + 1) (by omega) (by omega))
        refine ⟨v, fun k hk => ?_, v0, v1, fun h => ?_⟩
        · rw [fuelT] at hk
          obtain ⟨k, rfl⟩ : ∃ k', k = k' + 1 + 1 := ⟨k - 2, by omega⟩
          show touchstonelaw07_weight.f (k + 1 + 1) a0 a1 a2 a3 l d = _
          rw [hf, if_neg hd, hj, if_neg (by simp; omega)]
          exact hv k (by omega)
        · rw [smallT]; exact ⟨by omega, (v2 h).2⟩
mutual
theorem sameT_comm : ∀ a b : S24, sameT a b = sameT b a
  | ⟨k, p, n, i, l⟩, ⟨k', p', n', i', l'⟩ => by
    rw [sameT, sameT, sameL_comm l l', BEq.comm (a := k), BEq.comm (a := p.toList), BEq.comm (a := n.toList), BEq.comm (a := i)]
theorem sameL_comm : ∀ a b : List S24, sameL a b = sameL b a
  | [], [] => rfl
  | x :: xs, y :: ys => by rw [sameL, sameL, sameT_comm x y, sameL_comm xs ys]
  | [], _ :: _ => by rw [sameL, sameL]
  | _ :: _, [] => by rw [sameL, sameL]
end
mutual
theorem sameT_refl : ∀ a : S24, sameT a a = true
  | ⟨k, p, n, i, l⟩ => by rw [sameT, sameL_refl l]; simp
theorem sameL_refl : ∀ a : List S24, sameL a a = true
  | [] => by rw [sameL]
  | x :: xs => by rw [sameL, sameT_refl x, sameL_refl xs]; rfl
end
mutual
theorem same_size : ∀ a b : S24, sameT a b = true → sizeT a = sizeT b
  | ⟨k, p, n, i, l⟩, ⟨k', p', n', i', l'⟩, h => by
    rw [sameT] at h
    simp only [Bool.and_eq_true] at h
    rw [sizeT, sizeT]
    exact same_sizeL l l' h.2.2.2.2 1
theorem same_sizeL : ∀ a b : List S24, sameL a b = true → ∀ c, sizeL c a = sizeL c b
  | [], [], _, c => rfl
  | x :: xs, y :: ys, h, c => by
    rw [sameL, Bool.and_eq_true] at h
    rw [sizeL, sizeL, same_size x y h.1]
    exact same_sizeL xs ys h.2 _
  | [], _ :: _, h, c => by rw [sameL] at h; cases h
  | _ :: _, [], h, c => by rw [sameL] at h; cases h
end
theorem sames_true (x y : S24) : ∃ k, touchstonelaw07_TermSames.f k x.f0 x.f1 x.f2 x.f3 x.f4 y.f0 y.f1 y.f2 y.f3 y.f4 = some true := by
  obtain ⟨v, hv, _, _, hs⟩ := weighs _ x (Nat.le_refl _) 0 (by omega) (by omega)
  obtain ⟨u, hu, _, _, hs'⟩ := weighs _ y (Nat.le_refl _) 0 (by omega) (by omega)
  refine ⟨fuelT x + fuelT y + 1, ?_⟩
  have hal : touchstonelaw07_alive.f = some true := rfl
  rw [touchstonelaw07_TermSames.f, touchstonelaw07_Few.f, touchstonelaw07_Few.f, hv _ (by omega), hu _ (by omega)]
  simp only [Option.bind_some, hal]
  by_cases h : v ≤ 600
  · by_cases h' : u ≤ 600
    · rw [if_pos (decide_eq_true h), if_pos (decide_eq_true h'), touchstonelaw07_TermSames.j0]
      simp only [same_f, refSame_f _ x (Nat.le_refl _) (hs h) y _ (show fuelT x ≤ fuelT x + fuelT y by omega), size_f _ x (Nat.le_refl _) (hs h) _ (show fuelT x ≤ fuelT x + fuelT y by omega), size_f _ y (Nat.le_refl _) (hs' h') _ (show fuelT y ≤ fuelT x + fuelT y by omega), Option.bind_some, sameT_comm y x, sameT_refl, beq_self_eq_true, if_true, hal]
      cases hxy : sameT x y with
      | false => simp
      | true => rw [if_pos rfl, if_pos (same_size x y hxy)]
    · rw [if_pos (decide_eq_true h), if_neg (by simpa using h')]
  · rw [if_neg (by simpa using h)]
end Go.Proofs.YtglgkhodminffaaGreatDoor
