/- Terms as trees: how large, whether the same; what the program's Size, the reference's Same and the laws' bound Few come to. In plain Lean. -/
import Derived.Test.YtglgkhodminffaaGreatDoorXTx3
namespace Go.Proofs.YtglgkhodminffaaGreatDoor
set_option linter.unusedVariables false
set_option linter.unusedSimpArgs false
open Go.RowKit Go.Proofs.YtglgkhodminffaaGreatDoorW.PrintWords Go.Proofs.YtglgkhodminffaaGreatDoorW.PrintMore Go.Proofs.YtglgkhodminffaaGreatDoor.XT

theorem w64t {n : Int} (h0 : -1000000000 ≤ n) (h1 : n ≤ 1000000000) : wrap64 n = n := by unfold wrap64; omega
mutual
def fuelT : S24 → Nat
  | ⟨_, _, _, _, l⟩ => 2 + fuelL l
def fuelL : List S24 → Nat
  | [] => 1
  | x :: xs => 1 + fuelT x + fuelL xs
end
mutual
def smallT : S24 → Prop
  | ⟨_, _, _, _, l⟩ => l.length ≤ 300 ∧ smallL l
def smallL : List S24 → Prop
  | [] => True
  | x :: xs => smallT x ∧ smallL xs
end
mutual
def sizeT : S24 → Int
  | ⟨_, _, _, _, l⟩ => sizeL 1 l
def sizeL : Int → List S24 → Int
  | a, [] => a
  | a, x :: xs => sizeL (wrap64 (a + sizeT x)) xs
end
theorem fuelL_pos : ∀ l : List S24, 1 ≤ fuelL l
  | [] => by rw [fuelL]; omega
  | _ :: _ => by rw [fuelL]; omega
theorem rd_here {l pre xs : List S24} {x : S24} (h : l = pre ++ x :: xs) : rd_T24 l (pre.length : Int) = x := by
  unfold rd_T24
  rw [h, Int.toNat_natCast, List.getD_eq_getElem?_getD, List.getElem?_append_right (Nat.le_refl _), Nat.sub_self]
  rfl
theorem next_len {l pre xs : List S24} {x : S24} (h : l = pre ++ x :: xs) (hb : l.length ≤ 300) : wrap64 ((pre.length : Int) + 1) = ((pre ++ [x]).length : Int) := by
  have : l.length = pre.length + xs.length + 1 := by rw [h]; simp; omega
  rw [w64t (by omega) (by omega)]; simp
theorem size_l0 : ∀ (suf l pre : List S24) (acc : Int) (k : Nat), l = pre ++ suf → l.length ≤ 300 → (∀ x ∈ suf, ∀ k, fuelT x ≤ k → term_Size.f k x.f0 x.f1 x.f2 x.f3 x.f4 = some (sizeT x)) → fuelL suf ≤ k →
    term_Size.l0 k acc l (l.length : Int) (pre.length : Int) = some (sizeL acc suf)
  | [], l, pre, acc, k, hl, hb, hf, hk => by
    obtain ⟨k, rfl⟩ : ∃ k', k = k' + 1 := ⟨k - 1, by rw [fuelL] at hk; omega⟩
    rw [term_Size.l0, if_neg (by rw [hl]; simp), sizeL]
  | x :: xs, l, pre, acc, k, hl, hb, hf, hk => by
    rw [fuelL] at hk
    obtain ⟨k, rfl⟩ : ∃ k', k = k' + 1 := ⟨k - 1, by omega⟩
    have hlen : l.length = pre.length + xs.length + 1 := by rw [hl]; simp; omega
    rw [term_Size.l0, if_pos (by omega), if_pos (by omega), if_pos (by omega), rd_here hl, hf x (List.mem_cons_self ..) k (by omega), Option.bind_some, next_len hl hb, sizeL]
    exact size_l0 xs l (pre ++ [x]) _ k (by rw [hl]; simp) hb (fun y hy => hf y (List.mem_cons_of_mem _ hy)) (by omega)
theorem small_mem : ∀ {l : List S24}, smallL l → ∀ x ∈ l, smallT x
  | [], _, x, hx => by cases hx
  | y :: ys, h, x, hx => by
    rw [smallL] at h
    rcases List.mem_cons.1 hx with rfl | hx
    · exact h.1
    · exact small_mem h.2 x hx
theorem size_f : ∀ (n : Nat) (x : S24), SizeOf.sizeOf x ≤ n → smallT x → ∀ k, fuelT x ≤ k → term_Size.f k x.f0 x.f1 x.f2 x.f3 x.f4 = some (sizeT x)
  | 0, ⟨a0, a1, a2, a3, l⟩, hn, _, _, _ => by simp at hn
  | n + 1, ⟨a0, a1, a2, a3, l⟩, hn, hs, k, hk => by
    rw [smallT] at hs
    rw [fuelT] at hk
    obtain ⟨k, rfl⟩ : ∃ k', k = k' + 1 := ⟨k - 1, by omega⟩
    show term_Size.f (k + 1) a0 a1 a2 a3 l = _
    rw [term_Size.f, sizeT]
    refine size_l0 l l [] 1 k rfl hs.1 (fun x hx => size_f n x ?_ (small_mem hs.2 x hx)) (by omega)
    have := List.sizeOf_lt_of_mem hx
    simp at hn
    omega
theorem same_l0 (a0 b0 a3 b3 : Int) (a1 a2 b1 b2 : ByteArray) : ∀ (suf suf' l l' pre pre' : List S24) (k : Nat), l = pre ++ suf → l' = pre' ++ suf' → pre.length = pre'.length → suf.length = suf'.length → l.length ≤ 300 →
    (∀ x ∈ suf, ∀ y k, fuelT x ≤ k → touchstoneref07_Same.f k x.f0 x.f1 x.f2 x.f3 x.f4 y.f0 y.f1 y.f2 y.f3 y.f4 = some (sameT x y)) → fuelL suf ≤ k →
    touchstoneref07_Same.l0 k (pre.length : Int) a0 a1 a2 a3 l b0 b1 b2 b3 l' = some (sameL suf suf')
  | [], [], l, l', pre, pre', k, hl, hl', hp, hs, hb, hf, hk => by
    obtain ⟨k, rfl⟩ : ∃ k', k = k' + 1 := ⟨k - 1, by rw [fuelL] at hk; omega⟩
    rw [touchstoneref07_Same.l0, if_neg (by rw [hl]; simp), sameL]
  | [], _ :: _, l, l', pre, pre', k, hl, hl', hp, hs, hb, hf, hk => by simp at hs
  | _ :: _, [], l, l', pre, pre', k, hl, hl', hp, hs, hb, hf, hk => by simp at hs
  | x :: xs, y :: ys, l, l', pre, pre', k, hl, hl', hp, hs, hb, hf, hk => by
    rw [fuelL] at hk
    obtain ⟨k, rfl⟩ : ∃ k', k = k' + 1 := ⟨k - 1, by omega⟩
    have hlen : l.length = pre.length + xs.length + 1 := by rw [hl]; simp; omega
    have hlen' : l'.length = pre'.length + ys.length + 1 := by rw [hl']; simp; omega
    simp only [List.length_cons] at hs
    have hr' : rd_T24 l' (pre.length : Int) = y := by rw [hp]; exact rd_here hl'
    rw [touchstoneref07_Same.l0, if_pos (by omega), if_pos (by omega), if_pos (by omega), rd_here hl, hr', hf x (List.mem_cons_self ..) y k (by omega), Option.bind_some, next_len hl hb, sameL]
    cases hxy : sameT x y with
    | false => simp
    | true =>
      rw [if_pos rfl, Bool.true_and]
      exact same_l0 a0 b0 a3 b3 a1 a2 b1 b2 xs ys l l' (pre ++ [x]) (pre' ++ [y]) k (by rw [hl]; simp) (by rw [hl']; simp) (by simp [hp]) (by omega) hb (fun z hz => hf z (List.mem_cons_of_mem _ hz)) (by omega)
theorem refSame_f : ∀ (n : Nat) (x : S24), SizeOf.sizeOf x ≤ n → smallT x → ∀ (y : S24) (k : Nat), fuelT x ≤ k → touchstoneref07_Same.f k x.f0 x.f1 x.f2 x.f3 x.f4 y.f0 y.f1 y.f2 y.f3 y.f4 = some (sameT x y)
  | 0, ⟨a0, a1, a2, a3, l⟩, hn, _, _, _, _ => by simp at hn
  | n + 1, ⟨a0, a1, a2, a3, l⟩, hn, hs, ⟨b0, b1, b2, b3, l'⟩, k, hk => by
    rw [smallT] at hs
    rw [fuelT] at hk
    have hpos := fuelL_pos l
    obtain ⟨k, rfl⟩ : ∃ k', k = k' + 1 + 1 := ⟨k - 2, by omega⟩
    show touchstoneref07_Same.f (k + 1 + 1) a0 a1 a2 a3 l b0 b1 b2 b3 l' = _
    have hj : ∀ q, touchstoneref07_Same.j0 (k + 1) q a0 a1 a2 a3 l b0 b1 b2 b3 l' = if q = true then some false else touchstoneref07_Same.l0 k 0 a0 a1 a2 a3 l b0 b1 b2 b3 l' := fun q => by rw [touchstoneref07_Same.j0]
    rw [touchstoneref07_Same.f, sameT]
    simp only [hj, if_true]
    by_cases h0 : a0 = b0
    · by_cases h1 : a1.toList = b1.toList
      · by_cases h2 : a2.toList = b2.toList
        · by_cases h3 : a3 = b3
          · rw [if_pos h0, if_pos h1, if_pos h2, if_pos h3]
            by_cases hl : l.length = l'.length
            · have hne : ((l.length : Int) != (l'.length : Int)) = false := by simp [hl]
              rw [hne, if_neg (by simp), h0, h1, h2, h3]
              have := same_l0 a0 b0 a3 b3 a1 a2 b1 b2 l l' l l' [] [] k rfl rfl rfl hl hs.1 (fun x hx y k hk => refSame_f n x (by have := List.sizeOf_lt_of_mem hx; simp at hn; omega) (small_mem hs.2 x hx) y k hk) (by omega)
              rw [h0, h3] at this
              simpa using this
            · have hne : ((l.length : Int) != (l'.length : Int)) = true := bne_iff_ne.mpr (by omega)
              rw [hne, if_pos rfl, sameL_len l l' hl]
              simp
          · simp [h0, h1, h2, h3]
        · simp [h0, h1, h2]
      · simp [h0, h1]
    · simp [h0]
end Go.Proofs.YtglgkhodminffaaGreatDoor
