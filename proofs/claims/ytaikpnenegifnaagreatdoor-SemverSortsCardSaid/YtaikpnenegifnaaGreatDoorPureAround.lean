/- semver.Sorted and Around, in plain Lean: what they return; no program in sight. -/
import Derived.Test.YtaikpnenegifnaaGreatDoorXMx9
import Derived.Test.YtaikpnenegifnaaGreatDoorHSorted
namespace Go.Proofs.YtaikpnenegifnaaGreatDoor
set_option linter.unusedSimpArgs false
set_option linter.unusedVariables false
open Go.RowKit Go.Proofs.YtaikpnenegifnaaGreatDoorW.PrintWords Go.Proofs.YtaikpnenegifnaaGreatDoor.XM

theorem w64b {n : Int} (h0 : -1000000000 ≤ n) (h1 : n ≤ 1000000000) : wrap64 n = n := by unfold wrap64; omega
theorem rd_drop (l : List S44) (i : Nat) (hi : i < l.length) : l.drop i = rd_T44 l (i : Int) :: l.drop (i + 1) := by
  unfold rd_T44
  rw [List.drop_eq_getElem_cons hi, Int.toNat_natCast, List.getD_eq_getElem?_getD, List.getElem?_eq_getElem hi, Option.getD_some]
theorem eta (x : S44) : (⟨x.f0, x.f1, x.f2⟩ : S44) = x := rfl
theorem eqb_iff (x y : S44) : (x.f0 == y.f0 && (x.f1 == y.f1 && (x.f2 == y.f2))) = true ↔ x = y := by
  simp only [Bool.and_eq_true, beq_iff_eq]
  cases x; cases y; simp

/-! ### Sorted: the same versions, in order -/
def vle (x y : S44) : Bool := !vlt y x
theorem mem_foldl (x : S44) : ∀ (l o : List S44), x ∈ l.foldl dstep o ↔ x ∈ o ∨ x ∈ l
  | [], o => by simp
  | y :: l, o => by
    rw [List.foldl_cons, mem_foldl x l (dstep o y)]
    unfold dstep
    split
    · rename_i h
      constructor
      · rintro (h1 | h1)
        · exact .inl h1
        · exact .inr (List.mem_cons_of_mem _ h1)
      · rintro (h1 | h1)
        · exact .inl h1
        · rcases List.mem_cons.1 h1 with rfl | h1
          · exact .inl h
          · exact .inr h1
    · rw [List.mem_append, List.mem_singleton, List.mem_cons]
      constructor
      · rintro ((h1 | h1) | h1)
        · exact .inl h1
        · exact .inr (.inl h1)
        · exact .inr (.inr h1)
      · rintro (h1 | h1 | h1)
        · exact .inl (.inl h1)
        · exact .inl (.inr h1)
        · exact .inr h1
theorem mem_ddp (x : S44) (l : List S44) : x ∈ ddp l ↔ x ∈ l := by
  unfold ddp
  rw [mem_foldl]
  simp
theorem sorted_mem (x : S44) (l : List S44) : x ∈ ((ddp l).mergeSort fun x y => !vlt y x) ↔ x ∈ l := by
  rw [List.mem_mergeSort, mem_ddp]
theorem sorted_pair (l : List S44) : ((ddp l).mergeSort fun x y => !vlt y x).Pairwise (fun x y => vlt y x = false) := by
  have h := List.pairwise_mergeSort (le := fun x y => !vlt y x) (fun a b c h1 h2 => by
    simp only [Bool.not_eq_true'] at *
    exact vlt_swo.ntrans c b a h2 h1) (fun a b => by
    simp only [Bool.or_eq_true, Bool.not_eq_true']
    rcases h : vlt b a with _ | _
    · exact .inl rfl
    · right
      rcases h2 : vlt a b with _ | _
      · rfl
      · have := vlt_swo.trans a b a h2 h
        rw [vlt_swo.irrefl] at this
        cases this) (ddp l)
  exact h.imp (fun h => by simpa using h)

/-! ### Around -/
def astep (V : S44) (p : List S44 × List S44) (x : S44) : List S44 × List S44 :=
  if x.f0 = V.f0 ∧ x ≠ V then (if vlt x V = true then ([x], p.2) else if p.2 = [] then (p.1, [x]) else p) else p
theorem vc_zero (x y : S44) : vcmp x.f0 x.f1 x.f2 y.f0 y.f1 y.f2 = 0 ↔ x = y := by
  rw [vcmp_zero]; cases x; cases y; simp
theorem around_loop (S : List S44) (V : S44) (hs : S.length ≤ 1000) : ∀ (m i k : Nat) (b a : List S44), i + m = S.length → 2 * m + 6 ≤ k →
    semver_Around.l0 k b a S (S.length : Int) (i : Int) V.f0 V.f1 V.f2 = some ((S.drop i).foldl (astep V) (b, a)) := by
  intro m
  induction m with
  | zero =>
    intro i k b a hi hk
    obtain ⟨k, rfl⟩ : ∃ q, k = q + 1 := ⟨k - 1, by omega⟩
    rw [semver_Around.l0, if_neg (by omega), List.drop_eq_nil_of_le (by omega)]
    rfl
  | succ m ih =>
    intro i k b a hi hk
    obtain ⟨k, rfl⟩ : ∃ q, k = q + 6 := ⟨k - 6, by omega⟩
    have hw : wrap64 ((i : Int) + 1) = ((i + 1 : Nat) : Int) := (w64b (by omega) (by omega)).trans (by omega)
    have next : ∀ b a, semver_Around.l0 (k + 4) b a S (S.length : Int) (wrap64 ((i : Int) + 1)) V.f0 V.f1 V.f2 = some ((S.drop (i + 1)).foldl (astep V) (b, a)) := by
      intro b a
      rw [hw]
      exact ih (i + 1) (k + 4) b a (by omega) (by omega)
    clear hw
    have hd := rd_drop S i (by omega)
    rw [semver_Around.l0, if_pos (by omega), if_pos (by omega), if_pos (by omega), cmp_f (k + 1), Option.bind_some, hd, List.foldl_cons]
    generalize rd_T44 S (i : Int) = x at *
    have hz := vc_zero x V
    have hv : (vcmp x.f0 x.f1 x.f2 V.f0 V.f1 V.f2 < 0) ↔ vlt x V = true := by unfold vlt; simp
    by_cases h0 : x.f0 = V.f0
    · rw [if_pos h0, semver_Around.j1]
      by_cases hx : x = V
      · rw [show (vcmp x.f0 x.f1 x.f2 V.f0 V.f1 V.f2 == 0) = true from by simpa using hz.2 hx, if_pos rfl, next, show astep V (b, a) x = (b, a) from by unfold astep; rw [if_neg (fun h => h.2 hx)]]
      · rw [show (vcmp x.f0 x.f1 x.f2 V.f0 V.f1 V.f2 == 0) = false from by simpa using fun h => hx (hz.1 h), if_neg (by decide)]
        by_cases hl : vlt x V = true
        · rw [if_pos (hv.2 hl), next, eta, show astep V (b, a) x = ([x], a) from by unfold astep; rw [if_pos ⟨h0, hx⟩, if_pos hl]]
        · rw [if_neg (fun h => hl (hv.1 h))]
          by_cases ha : a = []
          · subst ha
            rw [if_pos (by simp), next, eta, show astep V (b, []) x = (b, [x]) from by unfold astep; rw [if_pos ⟨h0, hx⟩, if_neg hl, if_pos rfl]]
          · rw [if_neg (by intro h; apply ha; exact List.eq_nil_of_length_eq_zero (by omega)), next, show astep V (b, a) x = (b, a) from by unfold astep; rw [if_pos ⟨h0, hx⟩, if_neg hl, if_neg ha]]
    · rw [if_neg h0, semver_Around.j1, if_pos rfl, next, show astep V (b, a) x = (b, a) from by unfold astep; rw [if_neg (fun h => h0 h.1)]]

def aroundL (l : List S44) (V : S44) : List S44 × List S44 := ((ddp l).mergeSort fun x y => !vlt y x).foldl (astep V) ([], [])
theorem around_f (l : List S44) (V : S44) (hl : l.length ≤ 1000) (k : Nat) (hk : 2010 ≤ k) : semver_Around.f k V.f0 V.f1 V.f2 l = some (aroundL l V) := by
  have h1 := ddp_len l
  have h2 : ((ddp l).mergeSort fun x y => !vlt y x).length = (ddp l).length := List.length_mergeSort _
  unfold semver_Around.f semver_Sorted.f
  rw [if_pos hl, Option.bind_some]
  have := around_loop ((ddp l).mergeSort fun x y => !vlt y x) V (by omega) _ 0 k [] [] (Nat.zero_add _) (by omega)
  simpa [aroundL] using this

structure AInv (V : S44) (P : List S44) (p : List S44 × List S44) : Prop where
  bl : p.1.length ≤ 1
  al : p.2.length ≤ 1
  bm : ∀ y ∈ p.1, y ∈ P ∧ y.f0 = V.f0 ∧ y ≠ V
  am : ∀ y ∈ p.2, y ∈ P ∧ y.f0 = V.f0 ∧ y ≠ V
  bx : ∀ x ∈ P, x.f0 = V.f0 → x ≠ V → vlt x V = true → ∃ y, p.1 = [y] ∧ vlt y x = false
  ax : ∀ x ∈ P, x.f0 = V.f0 → x ≠ V → vlt x V = false → ∃ y, p.2 = [y] ∧ vlt x y = false
theorem ainv_step {V : S44} {P : List S44} {p : List S44 × List S44} {x : S44} (h : AInv V P p) (hs : ∀ z ∈ P, vlt x z = false) : AInv V (P ++ [x]) (astep V p x) := by
  obtain ⟨bl, al, bm, am, bx, ax⟩ := h
  unfold astep
  have irr := vlt_swo.irrefl x
  by_cases hq : x.f0 = V.f0 ∧ x ≠ V
  · rw [if_pos hq]
    by_cases hl : vlt x V = true
    · rw [if_pos hl]
      refine ⟨by simp, al, ?_, fun y hy => ?_, fun z hz h1 h2 h3 => ?_, fun z hz h1 h2 h3 => ?_⟩
      · intro y hy
        simp only [List.mem_singleton] at hy
        subst hy
        exact ⟨by simp, hq.1, hq.2⟩
      · obtain ⟨a1, a2⟩ := am y hy
        exact ⟨by simp [a1], a2⟩
      · refine ⟨x, rfl, ?_⟩
        rcases List.mem_append.1 hz with hz | hz
        · exact hs z hz
        · simp only [List.mem_singleton] at hz
          subst hz; exact irr
      · rcases List.mem_append.1 hz with hz | hz
        · exact ax z hz h1 h2 h3
        · simp only [List.mem_singleton] at hz
          subst hz; rw [hl] at h3; cases h3
    · rw [if_neg hl]
      have hl' : vlt x V = false := by simpa using hl
      by_cases ha : p.2 = []
      · rw [if_pos ha]
        refine ⟨bl, by simp, fun y hy => ?_, ?_, fun z hz h1 h2 h3 => ?_, fun z hz h1 h2 h3 => ?_⟩
        · obtain ⟨a1, a2⟩ := bm y hy
          exact ⟨by simp [a1], a2⟩
        · intro y hy
          simp only [List.mem_singleton] at hy
          subst hy
          exact ⟨by simp, hq.1, hq.2⟩
        · rcases List.mem_append.1 hz with hz | hz
          · exact bx z hz h1 h2 h3
          · simp only [List.mem_singleton] at hz
            subst hz; rw [hl'] at h3; cases h3
        · rcases List.mem_append.1 hz with hz | hz
          · obtain ⟨y, hy, -⟩ := ax z hz h1 h2 h3
            rw [ha] at hy; cases hy
          · simp only [List.mem_singleton] at hz
            subst hz; exact ⟨z, rfl, irr⟩
      · rw [if_neg ha]
        refine ⟨bl, al, fun y hy => ?_, fun y hy => ?_, fun z hz h1 h2 h3 => ?_, fun z hz h1 h2 h3 => ?_⟩
        · obtain ⟨a1, a2⟩ := bm y hy
          exact ⟨by simp [a1], a2⟩
        · obtain ⟨a1, a2⟩ := am y hy
          exact ⟨by simp [a1], a2⟩
        · rcases List.mem_append.1 hz with hz | hz
          · exact bx z hz h1 h2 h3
          · simp only [List.mem_singleton] at hz
            subst hz; rw [hl'] at h3; cases h3
        · rcases List.mem_append.1 hz with hz | hz
          · exact ax z hz h1 h2 h3
          · simp only [List.mem_singleton] at hz
            subst hz
            obtain ⟨y, hy⟩ : ∃ y, p.2 = [y] := by
              match hp : p.2 with
              | [] => exact absurd hp ha
              | [y] => exact ⟨y, rfl⟩
              | y :: u :: r => rw [hp] at al; simp at al
            exact ⟨y, hy, hs y (am y (by rw [hy]; simp)).1⟩
  · rw [if_neg hq]
    refine ⟨bl, al, fun y hy => ?_, fun y hy => ?_, fun z hz h1 h2 h3 => ?_, fun z hz h1 h2 h3 => ?_⟩
    · obtain ⟨a1, a2⟩ := bm y hy
      exact ⟨by simp [a1], a2⟩
    · obtain ⟨a1, a2⟩ := am y hy
      exact ⟨by simp [a1], a2⟩
    · rcases List.mem_append.1 hz with hz | hz
      · exact bx z hz h1 h2 h3
      · simp only [List.mem_singleton] at hz
        subst hz; exact absurd ⟨h1, h2⟩ hq
    · rcases List.mem_append.1 hz with hz | hz
      · exact ax z hz h1 h2 h3
      · simp only [List.mem_singleton] at hz
        subst hz; exact absurd ⟨h1, h2⟩ hq
theorem ainv_fold {V : S44} : ∀ (rest P : List S44) (p : List S44 × List S44), AInv V P p → (P ++ rest).Pairwise (fun x y => vlt y x = false) → AInv V (P ++ rest) (rest.foldl (astep V) p)
  | [], P, p, h, _ => by simpa using h
  | x :: rest, P, p, h, hp => by
    have e : P ++ x :: rest = (P ++ [x]) ++ rest := by simp
    rw [List.foldl_cons, e]
    rw [e] at hp
    refine ainv_fold rest (P ++ [x]) _ (ainv_step h fun z hz => ?_) hp
    exact (List.pairwise_append.1 (List.pairwise_append.1 hp).1).2.2 z hz x (by simp)
theorem ainv_around (l : List S44) (V : S44) : AInv V l (aroundL l V) := by
  have h0 : AInv V [] ([], []) := ⟨by simp, by simp, by simp, by simp, by simp, by simp⟩
  have h := ainv_fold ((ddp l).mergeSort fun x y => !vlt y x) [] ([], []) h0 (by simpa using sorted_pair l)
  simp only [List.nil_append] at h
  obtain ⟨bl, al, bm, am, bx, ax⟩ := h
  exact ⟨bl, al, fun y hy => ⟨(sorted_mem y l).1 (bm y hy).1, (bm y hy).2⟩, fun y hy => ⟨(sorted_mem y l).1 (am y hy).1, (am y hy).2⟩, fun x hx => bx x ((sorted_mem x l).2 hx), fun x hx => ax x ((sorted_mem x l).2 hx)⟩
end Go.Proofs.YtaikpnenegifnaaGreatDoor
