/- semver.IsPkg, ParsePin, Print and their references, in plain Lean: they answer alike; no program in sight. -/
import Derived.Test.YtaikpnenegifnaaDoorXMx6
import Derived.Test.YtaikpnenegifnaaDoorXMx5
import Derived.Test.YtaikpnenegifnaaDoorXMx9
import Derived.Test.YtaikpnenegifnaaDoorPureSem
import Derived.Lib.IndexMore
import Derived.Lib.LazyBuf
namespace Go.Proofs.YtaikpnenegifnaaDoor
set_option linter.unusedSimpArgs false
set_option linter.unusedVariables false
open Go.RowKit Go.Proofs.YtaikpnenegifnaaDoorW.PrintWords Go.Proofs.YtaikpnenegifnaaDoor.XM

theorem rin_f (a : Int) : touchstoneref05_in.f a = some (decide (0 ≤ a ∧ a ≤ 999999)) := by
  unfold touchstoneref05_in.f
  by_cases h : a ≥ 0
  · rw [if_pos h]; congr 1; simp; omega
  · rw [if_neg h]; congr 1; simp; omega
theorem rright_f (a b c : Int) : touchstoneref05_Right.f a b c = semver_Right.f a b c := by
  unfold touchstoneref05_Right.f semver_Right.f
  simp only [in_f, rin_f]

/-! ### Package names -/
def isLow (b : UInt8) : Bool := decide (97 ≤ b.toNat) && decide (b.toNat ≤ 122)
def isPk (b : UInt8) : Bool := isLow b || isD b
theorem isLow_iff (b : UInt8) : isLow b = true ↔ 97 ≤ b.toNat ∧ b.toNat ≤ 122 := by simp [isLow]
theorem isPk_iff (b : UInt8) : isPk b = true ↔ (97 ≤ b.toNat ∧ b.toNat ≤ 122) ∨ (48 ≤ b.toNat ∧ b.toNat ≤ 57) := by simp [isPk, isLow, isD]
def pkgL (l : List UInt8) : Bool := decide (1 ≤ l.length) && decide (l.length ≤ 20) && isLow (l.getD 0 0) && l.all isPk

def pkSet : List UInt8 := [97, 98, 99, 100, 101, 102, 103, 104, 105, 106, 107, 108, 109, 110, 111, 112, 113, 114, 115, 116, 117, 118, 119, 120, 121, 122, 48, 49, 50, 51, 52, 53, 54, 55, 56, 57]
theorem pkSet_contains (b : UInt8) : pkSet.contains b = isPk b := by
  rw [Bool.eq_iff_iff, isPk_iff]
  simp only [pkSet, List.contains_cons, List.contains_nil, Bool.or_false, Bool.or_eq_true, beq_iff_eq, ← UInt8.toNat_inj, UInt8.reduceToNat]
  omega
theorem dropWhile_nil {p : UInt8 → Bool} : ∀ {l : List UInt8}, l.dropWhile p = [] ↔ ∀ b ∈ l, p b = true
  | [] => by simp
  | b :: l => by
    have ih := dropWhile_nil (p := p) (l := l)
    by_cases h : p b = true
    · simp [List.dropWhile, h, ih]
    · simp [List.dropWhile, h]
theorem dropWhile_head {p : UInt8 → Bool} : ∀ {l r : List UInt8} {b : UInt8}, l.dropWhile p = b :: r → p b = false
  | [], r, b, h => by simp at h
  | c :: l, r, b, h => by
    by_cases hc : p c = true
    · simp only [List.dropWhile, hc] at h
      exact dropWhile_head h
    · simp only [List.dropWhile, hc] at h
      simp at h
      rw [← h.1]; simpa using hc
theorem trimS_nil {l cs : List UInt8} : Lib.trimS l cs = [] ↔ ∀ b ∈ l, cs.contains b = true := by
  constructor
  · intro h
    unfold Lib.trimS Lib.trimRightS Lib.trimLeftS at h
    rw [dropWhile_nil] at h
    cases hm : l.reverse.dropWhile (cs.contains ·) with
    | nil =>
      intro b hb
      exact dropWhile_nil.1 hm b (by simpa using hb)
    | cons b r =>
      have h1 := dropWhile_head hm
      have h2 := h b (by rw [hm]; simp)
      exact absurd h2 (by rw [h1]; decide)
  · exact trimS_all

theorem spkg_f (s : ByteArray) (hs : s.size ≤ 1000) : semver_IsPkg.f s = some (pkgL s.data.toList) := by
  have hl := size_len s
  unfold semver_IsPkg.f pkgL
  rw [ByteArray.toList_eq]
  by_cases h0 : s.data.toList = []
  · rw [if_pos h0]
    rw [h0]; rfl
  · rw [if_neg h0]
    have h1 : 1 ≤ s.data.toList.length := by
      rcases Nat.eq_zero_or_pos s.data.toList.length with h | h
      · exact absurd (List.eq_nil_of_length_eq_zero h) h0
      · exact h
    by_cases h20 : (s.size : Int) ≤ 20
    · have hb := bt_list s 0
      simp only [show ((0 : Nat) : Int) = 0 from rfl] at hb
      rw [if_pos h20, if_pos (by omega), hb]
      have hlow := isLow_iff (s.data.toList.getD 0 0)
      have hnl : ¬ (97 ≤ (s.data.toList.getD 0 0).toNat ∧ (s.data.toList.getD 0 0).toNat ≤ 122) → (decide (1 ≤ s.data.toList.length) && decide (s.data.toList.length ≤ 20) && isLow (s.data.toList.getD 0 0) && s.data.toList.all isPk) = false := by
        intro h
        have : isLow (s.data.toList.getD 0 0) = false := by
          rw [← Bool.not_eq_true, hlow]; exact h
        rw [this]; simp
      by_cases ha : (((s.data.toList.getD 0 0).toNat : Nat) : Int) ≥ 97
      · rw [if_pos ha]
        by_cases hz : (((s.data.toList.getD 0 0).toNat : Nat) : Int) ≤ 122
        · rw [if_pos hz]
          have hlow' : isLow (s.data.toList.getD 0 0) = true := hlow.2 ⟨by omega, by omega⟩
          have ht : strings_Trim.f s ⟨pkSet.toArray⟩ = some ⟨(Lib.trimS s.data.toList pkSet).toArray⟩ := by
            unfold strings_Trim.f
            rw [if_pos ⟨by omega, by decide, by decide⟩]
          show (strings_Trim.f s ⟨pkSet.toArray⟩).bind _ = _
          rw [ht, Option.bind_some, ByteArray.toList_eq]
          congr 1
          rw [hlow', show decide (1 ≤ s.data.toList.length) = true from decide_eq_true h1, show decide (s.data.toList.length ≤ 20) = true from decide_eq_true (by omega)]
          rw [Bool.eq_iff_iff]
          simp only [beq_iff_eq, Bool.true_and, List.all_eq_true]
          rw [trimS_nil]
          simp only [pkSet_contains]
        · rw [if_neg hz, hnl (by omega)]
      · rw [if_neg ha, hnl (by omega)]
    · rw [if_neg h20, show decide (s.data.toList.length ≤ 20) = false from decide_eq_false (by omega)]
      simp

theorem rpkg_loop (s : ByteArray) (hs : s.size ≤ 1000) (l : List UInt8) (el : s.data.toList = l) : ∀ (m i k : Nat), i + m = l.length → 1 ≤ i → m + 1 ≤ k →
    touchstoneref05_IsPkg.l0 k s i = some ((l.drop i).all isPk && decide (1 ≤ l.length) && decide (l.length ≤ 20)) := by
  have hl : l.length = s.size := by rw [← el, size_len]
  have fin : ∀ i : Nat, l.length ≤ i → (if (s.size : Int) ≥ 1 then (some (decide ((s.size : Int) ≤ 20))) else (some false)) = some ((l.drop i).all isPk && decide (1 ≤ l.length) && decide (l.length ≤ 20)) := by
    intro i hi
    rw [List.drop_eq_nil_of_le hi]
    by_cases h1 : (s.size : Int) ≥ 1
    · rw [if_pos h1, show decide (1 ≤ l.length) = true from decide_eq_true (by omega)]
      simp [hl]; omega
    · rw [if_neg h1, show decide (1 ≤ l.length) = false from decide_eq_false (by omega)]
      simp
  intro m
  induction m with
  | zero =>
    intro i k hi h1 hk
    obtain ⟨k, rfl⟩ : ∃ q, k = q + 1 := ⟨k - 1, by omega⟩
    rw [touchstoneref05_IsPkg.l0, if_neg (by omega)]
    exact fin i (by omega)
  | succ m ih =>
    intro i k hi h1 hk
    obtain ⟨k, rfl⟩ : ∃ q, k = q + 1 := ⟨k - 1, by omega⟩
    have ih' := ih (i + 1) k (by omega) (by omega) (by omega)
    have hd : l.drop i = l.getD i 0 :: l.drop (i + 1) := by
      have h' : i < l.length := by omega
      rw [List.drop_eq_getElem_cons h', List.getD_eq_getElem?_getD, List.getElem?_eq_getElem h', Option.getD_some]
    have hb : bt s (i : Int) = (((l.getD i 0).toNat : Nat) : Int) := by rw [bt_list, el]
    have hpk := isPk_iff (l.getD i 0)
    rw [touchstoneref05_IsPkg.l0, hb, show wrap64 ((i : Int) + 1) = ((i + 1 : Nat) : Int) from (w64 (by omega) (by omega)).trans (by omega), ih', hd]
    clear ih' ih hb
    rw [List.all_cons]
    generalize (l.getD i 0) = b at *
    rw [if_pos (by omega), if_pos (by omega)]
    by_cases c1 : ((b.toNat : Nat) : Int) ≥ 97
    · rw [if_pos c1]
      by_cases c2 : ((b.toNat : Nat) : Int) ≤ 122
      · rw [if_pos c2, hpk.2 (.inl ⟨by omega, by omega⟩)]; simp
      · have : isPk b = false := by rw [← Bool.not_eq_true, hpk]; omega
        rw [if_neg c2, if_pos (by omega), if_pos (by omega), if_neg (by omega), this]; simp
    · rw [if_neg c1, if_pos (by omega)]
      by_cases c3 : ((b.toNat : Nat) : Int) ≥ 48
      · rw [if_pos c3]
        by_cases c4 : ((b.toNat : Nat) : Int) ≤ 57
        · rw [if_pos c4, hpk.2 (.inr ⟨by omega, by omega⟩)]; simp
        · have : isPk b = false := by rw [← Bool.not_eq_true, hpk]; omega
          rw [if_neg c4, this]; simp
      · have : isPk b = false := by rw [← Bool.not_eq_true, hpk]; omega
        rw [if_neg c3, this]; simp
theorem rpkg_f (s : ByteArray) (hs : s.size ≤ 1000) (k : Nat) (hk : s.size + 2 ≤ k) : touchstoneref05_IsPkg.f k s = some (pkgL s.data.toList) := by
  obtain ⟨l, el⟩ : ∃ l, s.data.toList = l := ⟨_, rfl⟩
  have hl : l.length = s.size := by rw [← el, size_len]
  unfold touchstoneref05_IsPkg.f pkgL
  obtain ⟨k, rfl⟩ : ∃ q, k = q + 1 := ⟨k - 1, by omega⟩
  rw [el, touchstoneref05_IsPkg.l0]
  cases l with
  | nil =>
    simp only [List.length_nil] at hl
    rw [if_neg (by omega), if_neg (by omega)]; rfl
  | cons b r =>
    have hlp := rpkg_loop s hs (b :: r) el r.length 1 k (by simp; omega) (Nat.le_refl _) (by simp at hl; omega)
    have hb := bt_list s 0
    rw [el] at hb
    simp only [show ((0 : Nat) : Int) = 0 from rfl, List.getD_cons_zero] at hb
    simp only [List.length_cons] at hl
    have hlow := isLow_iff b
    have hpk := isPk_iff b
    rw [hb, show wrap64 ((0 : Int) + 1) = ((1 : Nat) : Int) from (w64 (by omega) (by omega)).trans (by omega), hlp]
    clear hlp hb
    rw [if_pos (by omega), if_pos (by omega), List.getD_cons_zero]
    have hno : isLow b = false → (decide (1 ≤ (b :: r).length) && decide ((b :: r).length ≤ 20) && isLow b && (b :: r).all isPk) = false := fun h => by rw [h]; simp
    by_cases c1 : ((b.toNat : Nat) : Int) ≥ 97
    · rw [if_pos c1]
      by_cases c2 : ((b.toNat : Nat) : Int) ≤ 122
      · have e1 : isLow b = true := hlow.2 ⟨by omega, by omega⟩
        have e2 : isPk b = true := hpk.2 (.inl ⟨by omega, by omega⟩)
        rw [if_pos c2, e1, List.all_cons, e2]
        congr 1
        rw [Bool.eq_iff_iff]
        simp [and_comm]
      · have : isLow b = false := by rw [← Bool.not_eq_true, hlow]; omega
        rw [if_neg c2, if_neg (by omega), hno this]
    · have : isLow b = false := by rw [← Bool.not_eq_true, hlow]; omega
      rw [if_neg c1, if_neg (by omega), hno this]

/-! ### Pins -/
def pinR (s : ByteArray) : ByteArray × Int × Int × Int × Int :=
  if 0 ≤ Lib.index s.data.toList [64] ∧ pkgL (s.data.toList.take (Lib.index s.data.toList [64]).toNat) = true ∧ (parseR ⟨(s.data.toList.drop ((Lib.index s.data.toList [64]).toNat + 1)).toArray⟩).2.2.2 = 0 then
    (⟨(s.data.toList.take (Lib.index s.data.toList [64]).toNat).toArray⟩, (parseR ⟨(s.data.toList.drop ((Lib.index s.data.toList [64]).toNat + 1)).toArray⟩).1, (parseR ⟨(s.data.toList.drop ((Lib.index s.data.toList [64]).toNat + 1)).toArray⟩).2.1, (parseR ⟨(s.data.toList.drop ((Lib.index s.data.toList [64]).toNat + 1)).toArray⟩).2.2.1, 0)
  else (⟨#[]⟩, 0, 0, 0, 10)
theorem parseR_err (s : ByteArray) : (parseR s).2.2.2 = 0 ∨ (parseR s).2.2.2 = 10 := by
  unfold parseR; split <;> simp

theorem spin_f (s : ByteArray) (hs : s.size ≤ 1000) : semver_ParsePin.f s = some (pinR s) := by
  unfold semver_ParsePin.f strings_Cut.f pinR
  have hl := size_len s
  rw [if_pos (by omega), Option.bind_some]
  unfold Lib.cut
  have hat : (⟨#[64]⟩ : ByteArray).data.toList = [64] := rfl
  rw [hat]
  by_cases h : 0 ≤ Lib.index s.data.toList [64]
  · rw [if_pos h]
    simp only [List.length_singleton]
    have hlen1 : (⟨(s.data.toList.drop ((Lib.index s.data.toList [64]).toNat + 1)).toArray⟩ : ByteArray).size ≤ 1000 := by rw [bs_size, List.length_drop]; omega
    have hlen2 : (⟨(s.data.toList.take (Lib.index s.data.toList [64]).toNat).toArray⟩ : ByteArray).size ≤ 1000 := by rw [bs_size, List.length_take]; omega
    rw [parse_f _ hlen1, Option.bind_some]
    simp only [if_true]
    rcases parseR_err ⟨(s.data.toList.drop ((Lib.index s.data.toList [64]).toNat + 1)).toArray⟩ with he | he
    · rw [if_pos he, spkg_f _ hlen2, Option.bind_some]
      by_cases hp : pkgL (s.data.toList.take (Lib.index s.data.toList [64]).toNat) = true
      · rw [if_pos hp, if_pos ⟨h, hp, he⟩]
      · rw [if_neg hp, if_neg (fun x => hp x.2.1)]
    · rw [if_neg (by rw [he]; decide), if_neg (fun x => by rw [he] at x; exact absurd x.2.2 (by decide))]
  · rw [if_neg h, if_neg (fun x => h x.1)]
    simp only []
    rw [parse_f _ (by decide), Option.bind_some]
    simp

theorem index_at {l : List UInt8} {c : UInt8} {i : Nat} (h : Lib.index l [c] = (i : Int)) : i < l.length ∧ l.getD i 0 = c ∧ ∀ j, j < i → l.getD j 0 ≠ c := by
  induction l generalizing i with
  | nil => simp [Lib.index] at h
  | cons b l ih =>
    simp only [Lib.index] at h
    by_cases hb : c = b
    · subst hb
      simp [List.isPrefixOf] at h
      have : i = 0 := by omega
      subst this
      exact ⟨by simp, by simp, fun j hj => by omega⟩
    · have e1 : ([c] : List UInt8).isPrefixOf (b :: l) = false := by simp [List.isPrefixOf, hb]
      rw [e1] at h
      simp only [Bool.false_eq_true, if_false] at h
      split at h
      · exfalso; omega
      · obtain ⟨i, rfl⟩ : ∃ q, i = q + 1 := ⟨i - 1, by have := Lib.index_ge l [c]; rename_i h1; simp at h1; omega⟩
        obtain ⟨h1, h2, h3⟩ := ih (i := i) (by omega)
        refine ⟨by simpa using h1, by simpa using h2, fun j hj => ?_⟩
        cases j with
        | zero => simpa using fun e : b = c => hb e.symm
        | succ j => simpa using h3 j (by omega)
theorem index_none {l : List UInt8} {c : UInt8} (h : Lib.index l [c] = -1) : ∀ j, j < l.length → l.getD j 0 ≠ c := by
  induction l with
  | nil => intro j hj; simp at hj
  | cons b l ih =>
    simp only [Lib.index] at h
    by_cases hb : c = b
    · subst hb
      simp [List.isPrefixOf] at h
    · have e1 : ([c] : List UInt8).isPrefixOf (b :: l) = false := by simp [List.isPrefixOf, hb]
      rw [e1] at h
      simp only [Bool.false_eq_true, if_false] at h
      split at h
      · rename_i h1
        intro j hj
        cases j with
        | zero => simpa using fun e : b = c => hb e.symm
        | succ j => simpa using ih (by simpa using h1) j (by simpa using hj)
      · have := Lib.index_ge l [c]; exfalso; omega

theorem rpin_j1 (s : ByteArray) (hs : s.size ≤ 1000) (k : Nat) (hk : 1100 ≤ k) (i : Nat) (hi : i ≤ s.size)
    (h : (i < s.size ∧ Lib.index s.data.toList [64] = (i : Int)) ∨ (i = s.size ∧ Lib.index s.data.toList [64] = -1)) :
    touchstoneref05_ParsePin.j1 k s i = some (pinR s) := by
  have hl := size_len s
  obtain ⟨k, rfl⟩ : ∃ q, k = q + 2 := ⟨k - 2, by omega⟩
  have bad : touchstoneref05_ParsePin.j2 (k + 1) s i true = some (⟨#[]⟩, 0, 0, 0, 10) := by
    rw [touchstoneref05_ParsePin.j2]; simp
  rw [touchstoneref05_ParsePin.j1]
  unfold pinR
  rcases h with ⟨hlt, hx⟩ | ⟨he, hx⟩
  · have e1 : s.extract 0 ((i : Int)).toNat = ⟨(s.data.toList.take i).toArray⟩ := bs_of (by rw [Int.toNat_natCast, Lib.extract_from_zero])
    have e2 : s.extract (((i + 1 : Nat) : Int)).toNat s.size = ⟨(s.data.toList.drop (i + 1)).toArray⟩ := bs_of (by rw [Int.toNat_natCast, Lib.extract_to_end])
    have hlen1 : (⟨(s.data.toList.drop (i + 1)).toArray⟩ : ByteArray).size ≤ 1000 := by rw [bs_size, List.length_drop]; omega
    have hlen2 : (⟨(s.data.toList.take i).toArray⟩ : ByteArray).size ≤ 1000 := by rw [bs_size, List.length_take]; omega
    rw [if_neg (by omega), if_pos (by omega), if_pos (by omega), e1, rpkg_f _ hlen2 (k + 1) (by omega), Option.bind_some, hx, Int.toNat_natCast]
    rw [show (⟨(s.data.toList.take i).toArray⟩ : ByteArray).data.toList = s.data.toList.take i from rfl]
    by_cases hp : pkgL (s.data.toList.take i) = true
    · simp only [hp]
      rw [touchstoneref05_ParsePin.j2]
      simp only [Bool.not_true, Bool.false_eq_true, if_false]
      rw [show wrap64 ((i : Int) + 1) = ((i + 1 : Nat) : Int) from (w64 (by omega) (by omega)).trans (by omega), if_pos (by omega), if_pos (by omega), e2, rparse_f _ hlen1 k (by omega), Option.bind_some]
      rcases parseR_err ⟨(s.data.toList.drop (i + 1)).toArray⟩ with he | he
      · rw [if_pos he, if_pos (by omega), if_pos (by omega), if_pos ⟨by omega, trivial, he⟩, e1]
      · rw [if_neg (by rw [he]; decide), if_neg (fun x => by rw [he] at x; exact absurd x.2.2 (by decide)), he]
    · have hp' : pkgL (s.data.toList.take i) = false := by simpa using hp
      rw [hp', Bool.not_false, bad, if_neg (fun x => absurd x.2.1 (by decide))]
  · rw [if_pos (by omega), bad, hx, if_neg (fun x => absurd x.1 (by decide))]

theorem rpin_loop (s : ByteArray) (hs : s.size ≤ 1000) : ∀ (m i k : Nat), i + m = s.size → m + 1101 ≤ k → (∀ j, j < i → s.data.toList.getD j 0 ≠ 64) →
    touchstoneref05_ParsePin.l0 k s i = some (pinR s) := by
  have hl := size_len s
  intro m
  induction m with
  | zero =>
    intro i k hi hk hno
    obtain ⟨k, rfl⟩ : ∃ q, k = q + 1 := ⟨k - 1, by omega⟩
    rw [touchstoneref05_ParsePin.l0, if_neg (by omega)]
    refine rpin_j1 s hs k (by omega) i (by omega) (.inr ⟨by omega, ?_⟩)
    rcases Int.lt_or_le (Lib.index s.data.toList [64]) 0 with h | h
    · have := Lib.index_ge s.data.toList [64]; omega
    · obtain ⟨h1, h2, -⟩ := index_at (i := (Lib.index s.data.toList [64]).toNat) (l := s.data.toList) (c := 64) (by omega)
      exact absurd h2 (hno _ (by omega))
  | succ m ih =>
    intro i k hi hk hno
    obtain ⟨k, rfl⟩ : ∃ q, k = q + 1 := ⟨k - 1, by omega⟩
    rw [touchstoneref05_ParsePin.l0, if_pos (by omega), if_pos (by omega), bt_list]
    by_cases h64 : s.data.toList.getD i 0 = 64
    · rw [if_pos (by rw [h64]; rfl)]
      refine rpin_j1 s hs k (by omega) i (by omega) (.inl ⟨by omega, ?_⟩)
      rcases Int.lt_or_le (Lib.index s.data.toList [64]) 0 with h | h
      · have h' : Lib.index s.data.toList [64] = -1 := by have := Lib.index_ge s.data.toList [64]; omega
        exact absurd h64 (index_none h' i (by omega))
      · obtain ⟨h1, h2, h3⟩ := index_at (i := (Lib.index s.data.toList [64]).toNat) (l := s.data.toList) (c := 64) (by omega)
        have g1 : ¬ (Lib.index s.data.toList [64]).toNat < i := fun x => hno _ x h2
        have g2 : ¬ i < (Lib.index s.data.toList [64]).toNat := fun x => h3 _ x h64
        omega
    · have hne : ¬ (((s.data.toList.getD i 0).toNat : Nat) : Int) = 64 := fun e => h64 (UInt8.toNat_inj.1 (Int.ofNat.inj e))
      rw [if_neg hne, show wrap64 ((i : Int) + 1) = ((i + 1 : Nat) : Int) from (w64 (by omega) (by omega)).trans (by omega)]
      refine ih (i + 1) k (by omega) (by omega) fun j hj => ?_
      by_cases hji : j = i
      · subst hji; exact h64
      · exact hno j (by omega)
theorem rpin_f (s : ByteArray) (hs : s.size ≤ 1000) (k : Nat) (hk : 2200 ≤ k) : touchstoneref05_ParsePin.f k s = some (pinR s) := by
  unfold touchstoneref05_ParsePin.f
  exact rpin_loop s hs s.size 0 k (by omega) (by omega) (fun j hj => by omega)

/-! ### Print -/
theorem strOf_dig {d : Nat} (h : d < 10) : strOfNums [((48 + d : Nat) : Int)] = ⟨([UInt8.ofNat (48 + d)] : List UInt8).toArray⟩ := by
  rw [show [((48 + d : Nat) : Int)] = ([UInt8.ofNat (48 + d)]).map (fun b => (b.toNat : Int)) by simp only [List.map_cons, List.map_nil, dig_ofNat h], Go.Lib.Lz.strOfNums_map]
theorem dec_step (n : Nat) (hn : n ≤ 999999) : (wrap64 (48 + Int.tmod (n : Int) 10)) % 256 = ((48 + n % 10 : Nat) : Int) := by
  rw [show Int.tmod (n : Int) 10 = ((n % 10 : Nat) : Int) from rfl, w64 (by omega) (by omega)]
  omega
theorem dec_next (n : Nat) (hn : n ≤ 999999) : wrap64 (Int.tdiv (n : Int) 10) = ((n / 10 : Nat) : Int) := by
  rw [show Int.tdiv (n : Int) 10 = ((n / 10 : Nat) : Int) from rfl, w64 (by omega) (by omega)]
theorem dec_loop : ∀ (k n : Nat) (acc : List UInt8), n ≤ 999999 → n < 10 ^ k → 1 ≤ n → acc.length + k ≤ 100000 → touchstoneref05_Dec.l0 (k + 1) n ⟨acc.toArray⟩ = some ⟨(Lib.decDigits n ++ acc).toArray⟩
  | 0, n, acc, hn, hk, h1, ha => by simp at hk; omega
  | k + 1, n, acc, hn, hk, h1, ha => by
    rw [touchstoneref05_Dec.l0, if_pos (by omega), Option.bind_some, dec_step n hn, dec_next n hn, strOf_dig (Nat.mod_lt _ (by decide)), bs_append, bs_size, bs_size, if_pos (by simp; omega)]
    rw [Nat.pow_succ, Nat.mul_comm] at hk
    have hk' : n / 10 < 10 ^ k := Nat.div_lt_of_lt_mul hk
    clear hk
    by_cases h10 : n < 10
    · rw [Nat.div_eq_of_lt h10, touchstoneref05_Dec.l0, if_neg (by decide), if_neg (by rw [ByteArray.toList_eq]; simp), Lib.decDigits, dif_pos h10, Nat.mod_eq_of_lt h10]
    · rw [dec_loop k (n / 10) _ (by omega) hk' (by clear hk'; omega) (by simp; omega), Lib.decDigits.eq_def n, dif_neg h10]
      simp
theorem dec_f (k n : Nat) (hn : n ≤ 999999) (hk : 8 ≤ k) (hk2 : k ≤ 90000) : touchstoneref05_Dec.f k n = some ⟨(Lib.decDigits n).toArray⟩ := by
  unfold touchstoneref05_Dec.f
  obtain ⟨k, rfl⟩ : ∃ q, k = q + 2 := ⟨k - 2, by omega⟩
  by_cases h0 : n = 0
  · subst h0
    have e := dec_step 0 (by omega)
    have e' := dec_next 0 (by omega)
    have n1 : (⟨#[]⟩ : ByteArray) = ⟨([] : List UInt8).toArray⟩ := rfl
    rw [touchstoneref05_Dec.l0, if_neg (by decide), if_pos (by rw [ByteArray.toList_eq]), Option.bind_some, e, e', strOf_dig (Nat.mod_lt _ (by decide)), n1, bs_append, bs_size, bs_size, if_pos (by simp), touchstoneref05_Dec.l0, if_neg (by decide), if_neg (by rw [ByteArray.toList_eq]; simp), Lib.decDigits, dif_pos (by decide)]
    simp
  · have hp : 10 ^ 6 ≤ 10 ^ (k + 1) := Nat.pow_le_pow_right (by decide) (by omega)
    have := dec_loop (k + 1) n [] hn (by omega) (by omega) (by simp; omega)
    simpa using this
theorem rprint_f (k : Nat) (hk : 8 ≤ k) (hk2 : k ≤ 90000) (a b c : Int) : touchstoneref05_Print.f k a b c = semver_Print.f a b c := by
  by_cases h : 0 ≤ a ∧ a ≤ 999999 ∧ 0 ≤ b ∧ b ≤ 999999 ∧ 0 ≤ c ∧ c ≤ 999999
  · obtain ⟨a, rfl⟩ : ∃ n : Nat, a = n := ⟨a.toNat, by omega⟩
    obtain ⟨b, rfl⟩ : ∃ n : Nat, b = n := ⟨b.toNat, by omega⟩
    obtain ⟨c, rfl⟩ : ∃ n : Nat, c = n := ⟨c.toNat, by omega⟩
    have ha : a ≤ 999999 := by omega
    have hb : b ≤ 999999 := by omega
    have hc : c ≤ 999999 := by omega
    rw [print_f ha hb hc]
    have la := decDigits_len ha
    have lb := decDigits_len hb
    have lc := decDigits_len hc
    have dot : (⟨#[46]⟩ : ByteArray) = ⟨([46] : List UInt8).toArray⟩ := rfl
    unfold touchstoneref05_Print.f
    rw [rright_f, right_f, decide_eq_true h]
    simp only [Option.bind_some, if_true, dec_f k a ha hk hk2, dec_f k b hb hk hk2, dec_f k c hc hk hk2, dot, bs_append, bs_size, List.length_append, List.length_cons, List.length_nil]
    rw [if_pos (by omega), if_pos (by omega), if_pos (by omega), if_pos (by omega)]
    congr 3
    simp [vtext]
  · rw [print_no h]
    unfold touchstoneref05_Print.f
    rw [rright_f, right_f, decide_eq_false h]
    rfl
end Go.Proofs.YtaikpnenegifnaaDoor
