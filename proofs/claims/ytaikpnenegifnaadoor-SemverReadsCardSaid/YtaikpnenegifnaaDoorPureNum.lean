/- The reference's reading of a version: the printed answer of touchstoneref05.number and Parse is what PureDig's plain functions say; no program in sight. -/
import Derived.Test.YtaikpnenegifnaaDoorXMx4
import Derived.Test.YtaikpnenegifnaaDoorPureDig
namespace Go.Proofs.YtaikpnenegifnaaDoor
set_option linter.unusedSimpArgs false
set_option linter.unusedVariables false
open Go.RowKit Go.Proofs.YtaikpnenegifnaaDoorW.PrintWords Go.Proofs.YtaikpnenegifnaaDoor.XM

theorem size_len (s : ByteArray) : s.data.toList.length = s.size := Array.length_toList
theorem bt_list (s : ByteArray) (n : Nat) : bt s (n : Int) = ((s.data.toList.getD n 0).toNat : Int) := by
  unfold bt
  by_cases h : n < s.size
  · rw [dif_pos (by simpa using h)]
    have h' : n < s.data.toList.length := by rw [size_len]; exact h
    rw [List.getD_eq_getElem?_getD, List.getElem?_eq_getElem h', Option.getD_some]
    rfl
  · rw [dif_neg (by simpa using h), List.getD_eq_getElem?_getD, List.getElem?_eq_none (by rw [size_len]; omega)]
    rfl
theorem w64 {n : Int} (h0 : -1000000000 ≤ n) (h1 : n ≤ 1000000000) : wrap64 n = n := by unfold wrap64; omega

theorem tw_le (l : List UInt8) : (l.takeWhile isD).length ≤ l.length := by
  have := congrArg List.length (take_takeWhile l)
  rw [List.length_append] at this
  omega
/-- The place j of a run of digits: digit, or the run's end. -/
theorem run_at : ∀ (l : List UInt8) (j : Nat), j ≤ (l.takeWhile isD).length → ((j < (l.takeWhile isD).length ↔ (j < l.length ∧ isD (l.getD j 0) = true)) ∧ (j < (l.takeWhile isD).length → (l.takeWhile isD).getD j 0 = l.getD j 0))
  | [], j, _ => by simp
  | c :: l, j, h => by
    by_cases hc : isD c = true
    · rw [List.takeWhile_cons_of_pos hc] at h ⊢
      cases j with
      | zero => simp [hc]
      | succ j =>
        have ih := run_at l j (by simpa using h)
        simp only [List.length_cons, Nat.add_lt_add_iff_right, List.getD_cons_succ]
        exact ih
    · rw [List.takeWhile_cons_of_neg hc] at h ⊢
      have : j = 0 := by simpa using h
      subst this
      simp [hc]
theorem take_succ_getD : ∀ (l : List UInt8) (j : Nat), j < l.length → l.take (j + 1) = l.take j ++ [l.getD j 0]
  | [], j, h => by simp at h
  | c :: l, 0, _ => by simp
  | c :: l, j + 1, h => by
    have := take_succ_getD l j (by simpa using h)
    simp [this]

def numR (i : Nat) (L : List UInt8) : Int × Int := match numL L with
  | some (n, _) => ((n : Int), (i : Int) + (L.takeWhile isD).length)
  | none => (0, -1)

theorem bt_drop (s : ByteArray) (i j : Nat) (L : List UInt8) (eL : s.data.toList.drop i = L) : bt s ((i + j : Nat) : Int) = ((L.getD j 0).toNat : Int) := by
  rw [bt_list, ← eL]; simp [List.getD_eq_getElem?_getD, List.getElem?_drop]
theorem bt_drop0 (s : ByteArray) (i : Nat) (L : List UInt8) (eL : s.data.toList.drop i = L) : bt s (i : Int) = ((L.getD 0 0).toNat : Int) := by
  rw [bt_list, ← eL]; simp [List.getD_eq_getElem?_getD, List.getElem?_drop]
theorem number_loop (s : ByteArray) (i : Nat) (hs : s.size ≤ 1000) (hi : i ≤ s.size) (L D : List UInt8) (eL : s.data.toList.drop i = L) (eD : L.takeWhile isD = D) : ∀ (m j k : Nat), j + m = 7 → j ≤ D.length → m + 1 ≤ k →
    touchstoneref05_number.l0 k s i (val (D.take j)) (i + j : Nat) = some (numR i L) := by
  intro m
  induction m with
  | zero =>
    intro j k hj hjl hk
    obtain ⟨k, rfl⟩ : ∃ q, k = q + 1 := ⟨k - 1, by omega⟩
    have hx : numL L = none := by
      unfold numL; rw [eD, if_pos (.inr (.inl (by omega)))]
    rw [touchstoneref05_number.l0]
    unfold numR
    rw [show wrap64 ((i : Int) + 7) = (i : Int) + 7 from w64 (by omega) (by omega), show wrap64 ((i : Int) + 6) = (i : Int) + 6 from w64 (by omega) (by omega), hx]
    have c1 : ¬ ((i + j : Nat) : Int) < (i : Int) + 7 := by omega
    have c2 : ¬ ((i + j : Nat) : Int) = (i : Int) := by omega
    have c3 : ((i + j : Nat) : Int) > (i : Int) + 6 := by omega
    simp only [c1, c2, c3, if_true, if_false, ite_self]
  | succ m ih =>
    intro j k hj hjl hk
    obtain ⟨k, rfl⟩ : ∃ q, k = q + 1 := ⟨k - 1, by omega⟩
    obtain ⟨r1, r2⟩ := run_at L j (by rw [eD]; exact hjl)
    rw [eD] at r1 r2
    have hlen : L.length = s.size - i := by rw [← eL, List.length_drop, size_len]
    have c1 : ((i + j : Nat) : Int) < (i : Int) + 7 := by omega
    have c0 : (0 : Int) ≤ ((i + j : Nat) : Int) := by omega
    have ci : (0 : Int) ≤ (i : Int) := by omega
    have hall : ∀ b ∈ D.take j, isD b = true := fun b hb => all_takeWhile L b (by rw [eD]; exact List.mem_of_mem_take hb)
    by_cases hd : j < D.length
    · obtain ⟨hj1, hj2⟩ := r1.1 hd
      have hdig := (isD_iff _).1 hj2
      have hv := val_lt hall
      have hp : 10 ^ (D.take j).length ≤ 10 ^ 6 := Nat.pow_le_pow_right (by decide) (by rw [List.length_take]; omega)
      have hval : val (D.take (j + 1)) = 10 * val (D.take j) + ((L.getD j 0).toNat - 48) := by
        rw [take_succ_getD _ _ hd, val_append, r2 hd]
      have ih' := ih (j + 1) k (by omega) hd (by omega)
      rw [touchstoneref05_number.l0]
      rw [show wrap64 ((i : Int) + 7) = (i : Int) + 7 from w64 (by omega) (by omega), bt_drop s i j L eL]
      have c2 : ((i + j : Nat) : Int) < (s.size : Int) := by omega
      have c3 : (((L.getD j 0).toNat : Nat) : Int) ≥ 48 := by omega
      have c4 : (((L.getD j 0).toNat : Nat) : Int) ≤ 57 := by omega
      simp only [c1, c2, c0, c3, c4, if_true]
      generalize hV : (val (D.take j)) = V at *
      generalize hB : (L.getD j 0).toNat = B at *
      rw [show wrap64 (10 * (V : Int)) = 10 * (V : Int) from w64 (by omega) (by omega)]
      rw [show wrap64 (B : Int) = (B : Int) from w64 (by omega) (by omega)]
      rw [show wrap64 (10 * (V : Int) + (B : Int)) = 10 * (V : Int) + (B : Int) from w64 (by omega) (by omega)]
      rw [show wrap64 (10 * (V : Int) + (B : Int) - 48) = ((10 * V + (B - 48) : Nat) : Int) from (w64 (by omega) (by omega)).trans (by omega)]
      rw [show wrap64 (((i + j : Nat) : Int) + 1) = ((i + (j + 1) : Nat) : Int) from (w64 (by omega) (by omega)).trans (by omega)]
      rw [hval] at ih'
      exact ih'
    · have hD : j = D.length := by omega
      have tail : (if ((i + j : Nat) : Int) = (i : Int) then (some ((0 : Int), (-1 : Int))) else (if ((i + j : Nat) : Int) > (i : Int) + 6 then (some (0, (-1))) else (if ((i + j : Nat) : Int) > (i : Int) + 1 then (if (0 : Int) ≤ (i : Int) then (if (i : Int) < (s.size : Int) then (if ((L.getD 0 0).toNat : Int) = 48 then (some (0, (-1))) else (some ((val (D.take j) : Int), ((i + j : Nat) : Int)))) else (none)) else (none)) else (some ((val (D.take j) : Int), ((i + j : Nat) : Int)))))) = some (numR i L) := by
        unfold numR numL
        rw [eD]
        by_cases j0 : j = 0
        · rw [if_pos (by omega), if_pos (.inl (List.eq_nil_of_length_eq_zero (by omega)))]
        · rw [if_neg (by omega), if_neg (by omega)]
          have hne : D ≠ [] := fun e => by rw [e] at hD; simp at hD; omega
          rw [show D.take j = D by rw [hD, List.take_length]]
          have hhd : D.head? = some (L.getD 0 0) := by
            have h0 := (run_at L 0 (by omega)).2 (by rw [eD]; omega)
            rw [eD] at h0
            rw [← h0]
            cases hq : D with
            | nil => exact absurd hq hne
            | cons b r => simp
          by_cases j1 : j = 1
          · rw [if_neg (by omega), if_neg]
            · simp only []
              rw [← hD]; simp
            · rintro (h | h | ⟨h, -⟩)
              · exact hne h
              · omega
              · omega
          · rw [if_pos (by omega), if_pos ci, if_pos (by have := tw_le L; rw [eD] at this; omega)]
            by_cases h48 : ((L.getD 0 0).toNat : Int) = 48
            · rw [if_pos h48, if_pos (.inr (.inr ⟨by omega, by rw [hhd]; congr 1; exact UInt8.toNat_inj.1 (Int.ofNat.inj h48)⟩))]
            · rw [if_neg h48, if_neg]
              · simp only []
                rw [← hD]; simp
              · rintro (h | h | ⟨-, h⟩)
                · exact hne h
                · omega
                · rw [hhd] at h
                  simp only [Option.some.injEq] at h
                  rw [h] at h48
                  exact h48 rfl
      have hnd : ¬ (j < L.length ∧ isD (L.getD j 0) = true) := fun h => hd (r1.2 h)
      rw [touchstoneref05_number.l0]
      rw [show wrap64 ((i : Int) + 7) = (i : Int) + 7 from w64 (by omega) (by omega), show wrap64 ((i : Int) + 6) = (i : Int) + 6 from w64 (by omega) (by omega), show wrap64 ((i : Int) + 1) = (i : Int) + 1 from w64 (by omega) (by omega), bt_drop s i j L eL, bt_drop0 s i L eL, if_pos c1, if_pos c0, tail]
      by_cases c2 : ((i + j : Nat) : Int) < (s.size : Int)
      · rw [if_pos c2]
        by_cases c3 : (((L.getD j 0).toNat : Nat) : Int) ≥ 48
        · rw [if_pos c3]
          by_cases c4 : (((L.getD j 0).toNat : Nat) : Int) ≤ 57
          · exact absurd ⟨by omega, (isD_iff _).2 ⟨by omega, by omega⟩⟩ hnd
          · rw [if_neg c4]
        · rw [if_neg c3]
      · rw [if_neg c2]

theorem number_f (s : ByteArray) (i : Nat) (hs : s.size ≤ 1000) (hi : i ≤ s.size) (k : Nat) (hk : 8 ≤ k) : touchstoneref05_number.f k s i = some (numR i (s.data.toList.drop i)) := by
  have := number_loop s i hs hi _ _ rfl rfl 7 0 k rfl (Nat.zero_le _) hk
  unfold touchstoneref05_number.f
  simpa [val] using this

/-- The reference's Parse. -/
def parseR (s : ByteArray) : Int × Int × Int × Int := match verL s.data.toList with
  | some (a, b, c) => ((a : Int), (b : Int), (c : Int), 0)
  | none => (0, 0, 0, 10)

theorem numR_none {i : Nat} {L : List UInt8} (h : numL L = none) : numR i L = (0, -1) := by unfold numR; rw [h]
theorem numR_some {i n : Nat} {L r : List UInt8} (h : numL L = some (n, r)) : numR i L = ((n : Int), (i : Int) + (L.takeWhile isD).length) := by unfold numR; rw [h]

theorem parse_j1 (s : ByteArray) (hs : s.size ≤ 1000) (k a b : Nat) (e : Nat) (he : e < s.size) (hk : 9 ≤ k) :
    touchstoneref05_Parse.j1 k s a b e false = some (match numL (s.data.toList.drop (e + 1)) with | some (c, []) => ((a : Int), (b : Int), (c : Int), 0) | _ => (0, 0, 0, 10)) := by
  obtain ⟨k, rfl⟩ : ∃ q, k = q + 1 := ⟨k - 1, by omega⟩
  rw [touchstoneref05_Parse.j1]
  have w1 : wrap64 ((e : Int) + 1) = ((e + 1 : Nat) : Int) := (w64 (by omega) (by omega)).trans (by omega)
  have hL : (s.data.toList.drop (e + 1)).length = s.size - (e + 1) := by rw [List.length_drop, size_len]
  rw [w1, number_f s (e + 1) hs (by omega) k (by omega)]
  clear w1
  simp only [Bool.false_eq_true, if_false, Option.bind_some]
  have hle := tw_le (s.data.toList.drop (e + 1))
  cases hn : numL (s.data.toList.drop (e + 1)) with
  | none => rw [numR_none hn, if_neg (by omega)]
  | some x =>
    obtain ⟨c, r⟩ := x
    obtain ⟨-, -, -, hr⟩ := numL_some hn
    rw [numR_some hn]
    have hrl : r.length = (s.data.toList.drop (e + 1)).length - ((s.data.toList.drop (e + 1)).takeWhile isD).length := by rw [hr, List.length_drop]
    cases r with
    | nil =>
      simp only [List.length_nil] at hrl
      rw [if_pos (by simp only []; omega)]
    | cons y r =>
      simp only [List.length_cons] at hrl
      rw [if_neg (by simp only []; omega)]

/-- What stands behind a number: nothing, a point, or another byte. -/
theorem behind {s : ByteArray} {i n : Nat} {r : List UInt8} (hi : i ≤ s.size) (hn : numL (s.data.toList.drop i) = some (n, r)) :
    r = s.data.toList.drop (i + ((s.data.toList.drop i).takeWhile isD).length) ∧ i + ((s.data.toList.drop i).takeWhile isD).length ≤ s.size ∧ r.length = s.size - (i + ((s.data.toList.drop i).takeWhile isD).length) := by
  obtain ⟨-, -, -, hr⟩ := numL_some hn
  have hle := tw_le (s.data.toList.drop i)
  have hL : (s.data.toList.drop i).length = s.size - i := by rw [List.length_drop, size_len]
  rw [List.drop_drop] at hr
  refine ⟨hr, by omega, ?_⟩
  rw [hr, List.length_drop, size_len]
theorem dot_iff {s : ByteArray} {e : Nat} (he : e < s.size) : (bt s (e : Int) = 46) ↔ s.data.toList.drop e = 46 :: s.data.toList.drop (e + 1) := by
  rw [bt_list]
  have h' : e < s.data.toList.length := by rw [size_len]; exact he
  rw [List.drop_eq_getElem_cons h', List.getD_eq_getElem?_getD, List.getElem?_eq_getElem h', Option.getD_some]
  constructor
  · intro h
    congr 1
    exact UInt8.toNat_inj.1 (by have e1 : (46 : UInt8).toNat = 46 := rfl
                                rw [e1]; exact Int.ofNat.inj h)
  · intro h
    simp only [List.cons.injEq, and_true] at h
    rw [h]; rfl

theorem parse_j0 (s : ByteArray) (hs : s.size ≤ 1000) (k a : Nat) (e : Nat) (he : e < s.size) (hk : 10 ≤ k) :
    touchstoneref05_Parse.j0 k s a e false = some (match numL (s.data.toList.drop (e + 1)) with
      | some (b, 46 :: r2) => (match numL r2 with | some (c, []) => ((a : Int), (b : Int), (c : Int), 0) | _ => (0, 0, 0, 10))
      | _ => (0, 0, 0, 10)) := by
  obtain ⟨k, rfl⟩ : ∃ q, k = q + 1 := ⟨k - 1, by omega⟩
  have bad : ∀ x y z : Int, touchstoneref05_Parse.j1 k s x y z true = some (0, 0, 0, 10) := by
    intro x y z
    obtain ⟨k, rfl⟩ : ∃ q, k = q + 1 := ⟨k - 1, by omega⟩
    rw [touchstoneref05_Parse.j1]
    simp
  rw [touchstoneref05_Parse.j0]
  have w1 : wrap64 ((e : Int) + 1) = ((e + 1 : Nat) : Int) := (w64 (by omega) (by omega)).trans (by omega)
  rw [w1, number_f s (e + 1) hs (by omega) k (by omega)]
  clear w1
  simp only [Bool.false_eq_true, if_false, Option.bind_some, bad]
  cases hn : numL (s.data.toList.drop (e + 1)) with
  | none => rw [numR_none hn, if_pos (by simp only []; omega)]
  | some x =>
    obtain ⟨b, r⟩ := x
    obtain ⟨hr, hle, hrl⟩ := behind (by omega) hn
    rw [numR_some hn]
    generalize hE : (e + 1 + ((s.data.toList.drop (e + 1)).takeWhile isD).length) = E at *
    have hE' : (((e + 1 : Nat) : Int) + (((s.data.toList.drop (e + 1)).takeWhile isD).length : Nat)) = (E : Int) := by omega
    simp only [hE']
    rw [if_neg (by omega)]
    by_cases hend : E < s.size
    · rw [if_neg (by omega), if_pos (by omega), if_pos (by omega)]
      by_cases hdot : bt s (E : Int) = 46
      · have h1 := (dot_iff hend).1 hdot
        rw [hr, h1, hdot]
        simp only [bne_self_eq_false]
        rw [parse_j1 s hs k a b E hend (by omega)]
      · have h1 : ∀ r2, r ≠ 46 :: r2 := by
          intro r2 h2
          apply hdot
          rw [dot_iff hend, ← hr, h2]
          congr 1
          have : (s.data.toList.drop E).drop 1 = r2 := by rw [← hr, h2]; rfl
          rw [← this, List.drop_drop]
        rw [show (bt s (E : Int) != 46) = true from by simpa using hdot, bad]
        split
        · rename_i h2
          simp only [Option.some.injEq, Prod.mk.injEq] at h2
          exact absurd h2.2 (h1 _)
        · rfl
    · rw [if_pos (by omega)]
      have : r = [] := List.eq_nil_of_length_eq_zero (by omega)
      subst this
      rfl

theorem rparse_f (s : ByteArray) (hs : s.size ≤ 1000) (k : Nat) (hk : 11 ≤ k) : touchstoneref05_Parse.f k s = some (parseR s) := by
  have bad : ∀ x y : Int, touchstoneref05_Parse.j0 k s x y true = some (0, 0, 0, 10) := by
    intro x y
    obtain ⟨k, rfl⟩ : ∃ q, k = q + 1 := ⟨k - 1, by omega⟩
    rw [touchstoneref05_Parse.j0]
    simp
  unfold touchstoneref05_Parse.f parseR verL
  have h0 := number_f s 0 hs (by omega) k (by omega)
  simp only [List.drop_zero] at h0
  rw [show ((0 : Nat) : Int) = 0 from rfl] at h0
  rw [h0]
  simp only [Option.bind_some, bad]
  cases hn : numL s.data.toList with
  | none => rw [numR_none hn, if_pos (by simp only []; omega)]
  | some x =>
    obtain ⟨a, r⟩ := x
    obtain ⟨hr, hle, hrl⟩ := behind (i := 0) (by omega) (by simpa using hn)
    rw [numR_some hn]
    simp only [List.drop_zero, Nat.zero_add] at hr hle hrl
    generalize hE : (s.data.toList.takeWhile isD).length = E at *
    have hE' : (((0 : Nat) : Int) + ((E : Nat) : Int)) = (E : Int) := by omega
    simp only [hE']
    rw [if_neg (by omega)]
    by_cases hend : E < s.size
    · rw [if_neg (by omega), if_pos (by omega), if_pos (by omega)]
      by_cases hdot : bt s (E : Int) = 46
      · have h1 := (dot_iff hend).1 hdot
        rw [hr, h1, hdot]
        simp only [bne_self_eq_false]
        rw [parse_j0 s hs k a E hend (by omega)]
        cases numL (s.data.toList.drop (E + 1)) with
        | none => rfl
        | some y =>
          obtain ⟨b, r⟩ := y
          split
          · rename_i h2
            simp only [Option.some.injEq, Prod.mk.injEq] at h2
            obtain ⟨rfl, rfl⟩ := h2
            simp only []
            split
            · rename_i h3; rw [h3]
            · rename_i h3
              split
              · rename_i h4
                split at h4
                · rename_i c h5
                  exact absurd h5 (h3 c)
                · cases h4
              · rfl
          · rename_i h2
            split
            · rename_i h4
              split at h4
              · rename_i b' r' h5
                exact absurd h5 (h2 b' r')
              · cases h4
            · rfl
      · have h1 : ∀ r2, r ≠ 46 :: r2 := by
          intro r2 h2
          apply hdot
          rw [dot_iff hend, ← hr, h2]
          congr 1
          have : (s.data.toList.drop E).drop 1 = r2 := by rw [← hr, h2]; rfl
          rw [← this, List.drop_drop]
        rw [show (bt s (E : Int) != 46) = true from by simpa using hdot, bad]
        split
        · rename_i h4
          split at h4
          · rename_i h2
            simp only [Option.some.injEq, Prod.mk.injEq] at h2
            exact absurd h2.2 (h1 _)
          · cases h4
        · rfl
    · rw [if_pos (by omega)]
      have : r = [] := List.eq_nil_of_length_eq_zero (by omega)
      subst this
      rfl
end Go.Proofs.YtaikpnenegifnaaDoor
