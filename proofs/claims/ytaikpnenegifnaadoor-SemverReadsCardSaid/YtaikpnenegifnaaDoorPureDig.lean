/- Decimal numerals as lists of bytes, in plain Lean: the run of digits at the front of a text, its number, and the numeral of a number; no program in sight. -/
import Derived.Lib.ItoaMem
import Derived.Lib.Atoi
namespace Go.Proofs.YtaikpnenegifnaaDoor
open Go

def isD (b : UInt8) : Bool := decide (48 ≤ b.toNat) && decide (b.toNat ≤ 57)
theorem isD_iff (b : UInt8) : isD b = true ↔ 48 ≤ b.toNat ∧ b.toNat ≤ 57 := by simp [isD]
def valF (n : Nat) (b : UInt8) : Nat := 10 * n + (b.toNat - 48)
def val (l : List UInt8) : Nat := l.foldl valF 0
theorem val_append (l : List UInt8) (b : UInt8) : val (l ++ [b]) = 10 * val l + (b.toNat - 48) := by simp [val, valF, List.foldl_append]
theorem fold_ge : ∀ (l : List UInt8) (a : Nat), a ≤ l.foldl valF a
  | [], _ => Nat.le_refl _
  | b :: l, a => Nat.le_trans (by unfold valF; omega) (fold_ge l (valF a b))
theorem val_pos {l : List UInt8} (hd : ∀ b ∈ l, isD b = true) (hn : l ≠ []) (hh : l.head? ≠ some 48) : 1 ≤ val l := by
  cases l with
  | nil => exact absurd rfl hn
  | cons b l =>
    have h1 := (isD_iff b).1 (hd b (by simp))
    have h2 : b.toNat ≠ 48 := fun e => hh (by simp; exact UInt8.toNat_inj.1 e)
    refine Nat.le_trans ?_ (fold_ge l (valF 0 b))
    unfold valF; omega
theorem fold_lt : ∀ (l : List UInt8) (a : Nat), (∀ b ∈ l, isD b = true) → l.foldl valF a < (a + 1) * 10 ^ l.length
  | [], a, _ => by simp
  | b :: l, a, h => by
    have h1 := (isD_iff b).1 (h b (by simp))
    have ih := fold_lt l (valF a b) (fun x hx => h x (by simp [hx]))
    simp only [List.foldl_cons, List.length_cons, Nat.pow_succ]
    refine Nat.lt_of_lt_of_le ih ?_
    rw [Nat.mul_comm (10 ^ l.length) 10, ← Nat.mul_assoc]
    exact Nat.mul_le_mul_right _ (by unfold valF; omega)
theorem val_lt {l : List UInt8} (h : ∀ b ∈ l, isD b = true) : val l < 10 ^ l.length := by
  have := fold_lt l 0 h
  simpa [val] using this
theorem dig_ofNat {d : Nat} (h : d < 10) : (UInt8.ofNat (48 + d)).toNat = 48 + d := by simp [UInt8.toNat_ofNat]; omega
theorem ofNat_dig {b : UInt8} (h : isD b = true) : UInt8.ofNat (48 + (b.toNat - 48)) = b := by
  have h1 := (isD_iff b).1 h
  apply UInt8.toNat_inj.1
  rw [dig_ofNat (by omega)]; omega

theorem decDigits_facts (n : Nat) : (∀ b ∈ Lib.decDigits n, isD b = true) ∧ Lib.decDigits n ≠ [] ∧ val (Lib.decDigits n) = n ∧ (10 ≤ n → (Lib.decDigits n).head? ≠ some 48) ∧ (n ≠ 0 → (Lib.decDigits n).head? ≠ some 48) := by
  induction n using Nat.strongRecOn with
  | _ n ih =>
    by_cases h : n < 10
    · rw [Lib.decDigits, dif_pos h]
      have e := dig_ofNat h
      refine ⟨fun b hb => ?_, by simp, ?_, fun h1 => by omega, fun h1 h2 => ?_⟩
      · simp only [List.mem_singleton] at hb
        subst hb
        rw [isD_iff, e]; omega
      · simp [val, valF]; omega
      · simp only [List.head?_cons, Option.some.injEq] at h2
        have := congrArg UInt8.toNat h2
        rw [e] at this
        simp at this
        omega
    · rw [Lib.decDigits, dif_neg h]
      have e := dig_ofNat (show n % 10 < 10 by omega)
      obtain ⟨i1, i2, i3, i4, i5⟩ := ih (n / 10) (by omega)
      have hh : (Lib.decDigits (n / 10) ++ [UInt8.ofNat (48 + n % 10)]).head? ≠ some 48 := by
        intro hx
        cases hl : Lib.decDigits (n / 10) with
        | nil => exact i2 hl
        | cons b l => rw [hl] at hx i5; exact i5 (by omega) (by simpa using hx)
      refine ⟨fun b hb => ?_, by simp, ?_, fun _ => hh, fun _ => hh⟩
      · rw [List.mem_append] at hb
        rcases hb with hb | hb
        · exact i1 b hb
        · simp only [List.mem_singleton] at hb
          subst hb
          rw [isD_iff, e]; omega
      · rw [val_append, i3, e]; omega
theorem decDigits_len {n : Nat} (h : n ≤ 999999) : (Lib.decDigits n).length ≤ 6 := by
  rw [Lib.decDigits_length]
  by_cases h0 : n < 10
  · rw [Lib.nDigits_small h0]; omega
  rw [Lib.nDigits_big h0]
  by_cases h1 : n / 10 < 10
  · rw [Lib.nDigits_small h1]; omega
  rw [Lib.nDigits_big h1]
  by_cases h2 : n / 10 / 10 < 10
  · rw [Lib.nDigits_small h2]; omega
  rw [Lib.nDigits_big h2]
  by_cases h3 : n / 10 / 10 / 10 < 10
  · rw [Lib.nDigits_small h3]; omega
  rw [Lib.nDigits_big h3]
  by_cases h4 : n / 10 / 10 / 10 / 10 < 10
  · rw [Lib.nDigits_small h4]; omega
  rw [Lib.nDigits_big h4, Lib.nDigits_small (by omega)]
  omega
/-- A row of digits without a needless 0 ahead is its number's numeral. -/
theorem decDigits_val : ∀ (m : Nat) (l : List UInt8), l.length = m → (∀ b ∈ l, isD b = true) → l ≠ [] → (l.length ≤ 1 ∨ l.head? ≠ some 48) → Lib.decDigits (val l) = l
  | 0, l, hm, _, hn, _ => by cases l with
    | nil => exact absurd rfl hn
    | cons b l => simp at hm
  | m + 1, l, hm, hd, hn, hh => by
    have e : l = l.dropLast ++ [l.getLast hn] := (List.dropLast_concat_getLast hn).symm
    have hb : isD (l.getLast hn) = true := hd _ (List.getLast_mem hn)
    have hb1 := (isD_iff _).1 hb
    have hl : l.dropLast.length = m := by simp [hm]
    have hv : val l = 10 * val l.dropLast + ((l.getLast hn).toNat - 48) := by conv => lhs; rw [e]
                                                                              exact val_append _ _
    by_cases h0 : l.dropLast = []
    · rw [h0] at hv e
      have hv' : val l = (l.getLast hn).toNat - 48 := by simpa [val] using hv
      rw [hv', Lib.decDigits, dif_pos (by omega), ofNat_dig hb]
      exact e.symm
    · have hd' : ∀ b ∈ l.dropLast, isD b = true := fun b hx => hd b ((List.dropLast_sublist l).subset hx)
      have hhd : l.head? ≠ some 48 := by
        rcases hh with hh | hh
        · exfalso
          apply h0
          apply List.eq_nil_of_length_eq_zero
          omega
        · exact hh
      have hhd' : l.dropLast.head? ≠ some 48 := by
        intro hx
        apply hhd
        rw [e]
        cases hq : l.dropLast with
        | nil => exact absurd hq h0
        | cons b r => rw [hq] at hx; simpa using hx
      have hp := val_pos hd' h0 hhd'
      have ih := decDigits_val m l.dropLast hl hd' h0 (.inr hhd')
      rw [Lib.decDigits, dif_neg (by omega), show val l / 10 = val l.dropLast by omega, ih, show val l % 10 = (l.getLast hn).toNat - 48 by omega, ofNat_dig hb]
      exact e.symm

/-- The numeral at the front of a text: its number and what stands behind it. -/
def numL (l : List UInt8) : Option (Nat × List UInt8) :=
  if l.takeWhile isD = [] ∨ 6 < (l.takeWhile isD).length ∨ (1 < (l.takeWhile isD).length ∧ (l.takeWhile isD).head? = some 48) then none else some (val (l.takeWhile isD), l.drop (l.takeWhile isD).length)
def NoD (r : List UInt8) : Prop := ∀ b, r.head? = some b → isD b = false
theorem takeWhile_noD {r : List UInt8} (h : NoD r) : r.takeWhile isD = [] := by
  cases r with
  | nil => rfl
  | cons b r => simp [List.takeWhile, h b rfl]
theorem numL_dec {n : Nat} {r : List UInt8} (hn : n ≤ 999999) (hr : NoD r) : numL (Lib.decDigits n ++ r) = some (n, r) := by
  obtain ⟨i1, i2, i3, i4, i5⟩ := decDigits_facts n
  have hl := decDigits_len hn
  have ht : (Lib.decDigits n ++ r).takeWhile isD = Lib.decDigits n := by
    rw [List.takeWhile_append_of_pos i1, takeWhile_noD hr, List.append_nil]
  unfold numL
  rw [ht, i3, List.drop_left' rfl, if_neg]
  rintro (h | h | ⟨h1, h2⟩)
  · exact i2 h
  · omega
  · by_cases h0 : n = 0
    · subst h0
      rw [Lib.decDigits, dif_pos (by decide)] at h1
      simp at h1
    · exact i5 h0 h2
theorem noD_drop : ∀ l : List UInt8, NoD (l.drop (l.takeWhile isD).length)
  | [] => fun b h => by simp at h
  | c :: l => by
    by_cases hc : isD c = true
    · rw [List.takeWhile_cons_of_pos hc]
      simpa using noD_drop l
    · rw [List.takeWhile_cons_of_neg hc]
      intro b hb
      simp at hb
      subst hb
      simpa using hc
theorem take_takeWhile : ∀ l : List UInt8, l.takeWhile isD ++ l.drop (l.takeWhile isD).length = l
  | [] => rfl
  | c :: l => by
    by_cases hc : isD c = true
    · rw [List.takeWhile_cons_of_pos hc]
      simpa using take_takeWhile l
    · rw [List.takeWhile_cons_of_neg hc]
      simp
theorem all_takeWhile : ∀ (l : List UInt8), ∀ b ∈ l.takeWhile isD, isD b = true
  | [], b, h => by simp at h
  | c :: l, b, h => by
    by_cases hc : isD c = true
    · rw [List.takeWhile_cons_of_pos hc] at h
      rcases List.mem_cons.1 h with rfl | h
      · exact hc
      · exact all_takeWhile l b h
    · rw [List.takeWhile_cons_of_neg hc] at h
      simp at h
theorem numL_some {l r : List UInt8} {n : Nat} (h : numL l = some (n, r)) : l = Lib.decDigits n ++ r ∧ n ≤ 999999 ∧ NoD r ∧ r = l.drop (l.takeWhile isD).length := by
  unfold numL at h
  split at h
  · cases h
  · rename_i hc
    simp only [Option.some.injEq, Prod.mk.injEq] at h
    obtain ⟨rfl, rfl⟩ := h
    have hc1 : l.takeWhile isD ≠ [] := fun e => hc (.inl e)
    have hc2 : ¬ 6 < (l.takeWhile isD).length := fun e => hc (.inr (.inl e))
    have hc3 : (l.takeWhile isD).length ≤ 1 ∨ (l.takeWhile isD).head? ≠ some 48 := by
      by_cases h1 : (l.takeWhile isD).length ≤ 1
      · exact .inl h1
      · exact .inr fun e => hc (.inr (.inr ⟨by omega, e⟩))
    have hv := val_lt (all_takeWhile l)
    have hp : 10 ^ (l.takeWhile isD).length ≤ 10 ^ 6 := Nat.pow_le_pow_right (by decide) (by omega)
    rw [decDigits_val _ _ rfl (all_takeWhile l) hc1 hc3]
    exact ⟨(take_takeWhile l).symm, by omega, noD_drop l, rfl⟩
/-- A version's text. -/
def vtext (a b c : Nat) : List UInt8 := Lib.decDigits a ++ 46 :: (Lib.decDigits b ++ 46 :: Lib.decDigits c)
theorem noD_dot (r : List UInt8) : NoD (46 :: r) := fun b h => by
  simp at h
  subst h
  rfl
theorem noD_nil : NoD [] := fun b h => by simp at h
/-- The version that a text spells. -/
def verL (l : List UInt8) : Option (Nat × Nat × Nat) :=
  match numL l with
  | some (a, 46 :: r) => match numL r with
    | some (b, 46 :: r2) => match numL r2 with
      | some (c, []) => some (a, b, c)
      | _ => none
    | _ => none
  | _ => none
theorem verL_text {a b c : Nat} (ha : a ≤ 999999) (hb : b ≤ 999999) (hc : c ≤ 999999) : verL (vtext a b c) = some (a, b, c) := by
  unfold verL vtext
  rw [numL_dec ha (noD_dot _)]
  simp only []
  rw [numL_dec hb (noD_dot _)]
  simp only []
  have := numL_dec hc noD_nil
  rw [List.append_nil] at this
  rw [this]
theorem verL_some {l : List UInt8} {a b c : Nat} (h : verL l = some (a, b, c)) : l = vtext a b c ∧ a ≤ 999999 ∧ b ≤ 999999 ∧ c ≤ 999999 := by
  unfold verL at h
  split at h
  · rename_i a' r e1
    split at h
    · rename_i b' r2 e2
      split at h
      · rename_i c' e3
        simp only [Option.some.injEq, Prod.mk.injEq] at h
        obtain ⟨rfl, rfl, rfl⟩ := h
        obtain ⟨rfl, h1, -, -⟩ := numL_some e1
        obtain ⟨rfl, h2, -, -⟩ := numL_some e2
        obtain ⟨rfl, h3, -, -⟩ := numL_some e3
        exact ⟨by simp [vtext], h1, h2, h3⟩
      · cases h
    · cases h
  · cases h
end Go.Proofs.YtaikpnenegifnaaDoor
