/- term.Same: whether two terms are the same tree; the library's slices.EqualFunc at terms, walked with it. -/
import Derived.Test.YtglgkhodminffaaGreatDoorXTx0
import Derived.Deep.QuietTactic
import Derived.BigQuiet
namespace Go.Proofs.YtglgkhodminffaaGreatDoor
set_option linter.unusedSimpArgs false
set_option linter.unusedVariables false
open Go.RowKit Go.Proofs.YtglgkhodminffaaGreatDoorW.PrintWords Go.Proofs.YtglgkhodminffaaGreatDoor.XT

mutual
def sameT : S24 → S24 → Bool
  | ⟨k, p, n, i, l⟩, ⟨k', p', n', i', l'⟩ => k == k' && (p.toList == p'.toList && (n.toList == n'.toList && (i == i' && sameL l l')))
def sameL : List S24 → List S24 → Bool
  | [], [] => true
  | x :: xs, y :: ys => sameT x y && sameL xs ys
  | [], _ :: _ => false
  | _ :: _, [] => false
end
theorem sameL_len : ∀ (l l' : List S24), l.length ≠ l'.length → sameL l l' = false
  | [], [], h => absurd rfl h
  | [], _ :: _, _ => by rw [sameL]
  | _ :: _, [], _ => by rw [sameL]
  | x :: xs, y :: ys, h => by rw [sameL, sameL_len xs ys (by intro e; exact h (by simp [e])), Bool.and_false]
theorem sameL_at : ∀ (l l' : List S24) (j : Nat), l.length = l'.length → j < l.length → sameL (l.drop j) (l'.drop j) = (sameT (l.getD j z24) (l'.getD j z24) && sameL (l.drop (j + 1)) (l'.drop (j + 1)))
  | [], l', j, _, h => by simp at h
  | x :: xs, [], j, e, _ => by simp at e
  | x :: xs, y :: ys, 0, _, _ => by simp [sameL]
  | x :: xs, y :: ys, j + 1, e, h => by
    have := sameL_at xs ys j (by simpa using e) (by simpa using h)
    simpa using this
/-- A term as a value, its slice at A. -/
def encT (x : S24) (A : Option Addr) (c : Nat) : Value := .agg #[.int .i64 x.f0, .string x.f1, .string x.f2, .int .i64 x.f3, .slice A x.f4.length c]

set_option maxRecDepth 100000 in
set_option maxHeartbeats 1000000 in
theorem eqf_walk (l0 l1 : List S24) (A0 A1 : Option Addr) (c0 c1 : Nat) (w : World) (h0 : Kd.C k24 w A0 l0.length l0) (h1 : Kd.C k24 w A1 l1.length l1) (hl : l0.length = l1.length)
    (hq : ∀ (i : Nat) (W : World) (A A' : Option Addr) (c c' : Nat), i < l0.length → (l0.getD i z24).f4.length ≤ c → (l1.getD i z24).f4.length ≤ c' → Kd.C k24 W A (l0.getD i z24).f4.length (l0.getD i z24).f4 → Kd.C k24 W A' (l1.getD i z24).f4.length (l1.getD i z24).f4 →
      Calls Tryz.prog 17 #[encT (l0.getD i z24) A c, encT (l1.getD i z24) A' c'] W fun e w' => e = .returned (.bool (sameT (l0.getD i z24) (l1.getD i z24))) ∧ Below W.heap.size W w') :
    Calls Tryz.prog 48 #[.slice A0 l0.length c0, .slice A1 l1.length c1, .func (.func 17) #[] #[]] w fun e w' => e = .returned (.bool (sameL l0 l1)) ∧ Below w.heap.size w w' := by
  obtain ⟨n, hn⟩ : ∃ n, l1.length = n := ⟨_, rfl⟩
  obtain ⟨v, hv⟩ : ∃ v, sameL l0 l1 = v := ⟨_, rfl⟩
  have hm : n ≤ 9223372036854775807 := by rw [← hn]; exact h1.2.1
  rw [hl] at h0
  rw [hl, hn, hv]
  rw [hn] at h0 h1
  have H0 := Aside0.mk h0
  have H1 := Aside0.mk h1
  have HQ := Aside0.mk hq
  have HL := Aside0.mk hl
  have HN := Aside0.mk hn
  have HV := Aside0.mk hv
  clear h0 h1 hq hl hn hv
  have d0 : ((n : Int) != (n : Int)) = false := by simp
  have hu := Tryz.underlying24
  go_enter Tryz.func48, Tryz.ntmps48
  go_wp2
  go_loopw [17] (fun i wr => ∃ k : Nat, k ≤ n ∧ i = .int .i64 k ∧ sameL (l0.drop k) (l1.drop k) = v ∧ Below w.heap.size w wr) (fun i _ => n + 1 - (intOf i).toNat)
  case atStart => exact ⟨0, Nat.zero_le _, rfl, by simpa using HV.out, Below.refl _ _⟩
  case round =>
    obtain ⟨k, hk, rfl, hS, hB⟩ := hrel
    by_cases hlt : k < n
    · have d1 : decide ((k : Int) < (n : Int)) = true := decide_eq_true (by omega)
      have d2 : (0 : Int) ≤ (k : Int) := by omega
      have q1 := eq_true d2
      have q2 : ((k : Int) < (n : Int)) = True := eq_true (by omega)
      have HB := Aside0.mk hB
      obtain ⟨ad, A4, c4, rfl, x0, x1, x2, x3, x4, xl, xc⟩ := at_T24 (Kd.C_below H0.out hB) (k : Int) d2 (by omega)
      obtain ⟨ad', A4', c4', rfl, y0, y1, y2, y3, y4, yl, yc⟩ := at_T24 (Kd.C_below H1.out hB) (k : Int) d2 (by omega)
      rw [Int.toNat_natCast] at x0 x1 x2 x3 x4 y0 y1 y2 y3 y4
      have z0 := fun o => (World.cell?_alloc_lt wr o _ (World.block_lt_of_cell? wr _ y0)).trans y0
      have z1 := fun o => (World.cell?_alloc_lt wr o _ (World.block_lt_of_cell? wr _ y1)).trans y1
      have z2 := fun o => (World.cell?_alloc_lt wr o _ (World.block_lt_of_cell? wr _ y2)).trans y2
      have z3 := fun o => (World.cell?_alloc_lt wr o _ (World.block_lt_of_cell? wr _ y3)).trans y3
      have z4 := fun o => (World.cell?_alloc_lt wr o _ (World.block_lt_of_cell? wr _ y4)).trans y4
      obtain ⟨a, ha⟩ : ∃ a, rd_T24 l0 (k : Int) = a := ⟨_, rfl⟩
      obtain ⟨b, hb⟩ : ∃ b, rd_T24 l1 (k : Int) = b := ⟨_, rfl⟩
      have ha' : l0.getD k z24 = a := ha
      have hb' : l1.getD k z24 = b := hb
      rw [ha] at x0 x1 x2 x3 x4 xl xc
      rw [hb] at y0 y1 y2 y3 y4 yl yc
      rw [hb] at z0 z1 z2 z3 z4
      have HA := Aside0.mk ha'
      have HBB := Aside0.mk hb'
      have XL := Aside0.mk xl
      have XC := Aside0.mk xc
      have YL := Aside0.mk yl
      have YC := Aside0.mk yc
      have HS := Aside0.mk hS
      clear ha hb ha' hb' xl xc yl yc hS
      obtain ⟨s, hs⟩ : ∃ s, sameT a b = s := ⟨_, rfl⟩
      have hst := sameL_at l0 l1 k HL.out (by rw [HL.out, HN.out]; exact hlt)
      rw [HS.out, HA.out, HBB.out, hs] at hst
      have HQ2 : Aside0 (∀ W, Kd.C k24 W A4 a.f4.length a.f4 → Kd.C k24 W A4' b.f4.length b.f4 → Calls Tryz.prog 17 #[encT a A4 c4, encT b A4' c4'] W fun e w' => e = .returned (.bool s) ∧ Below W.heap.size W w') := ⟨fun W g0 g1 => by
        have := HQ.out k W A4 A4' c4 c4' (by rw [HL.out, HN.out]; exact hlt)
        rw [HA.out, HBB.out, hs] at this
        exact this XL.out YL.out g0 g1⟩
      have HST := Aside0.mk hst
      clear hs hst
      cases s
      · go_wp2_with (first | (go_at_call 17; refine (HQ2.out _ (Kd.C_alloc (Kd.C_alloc XC.out _) _) (Kd.C_alloc (Kd.C_alloc YC.out _) _)).mono ?_; rintro e w1 ⟨rfl, hb⟩; have HB1 := Aside0.mk (below_step (below_alloc (below_alloc hB _) _) hb)))
        go_ret
        exact ⟨by rw [HST.out]; rfl, HB1.out⟩
      · go_wp2_with (first | (go_at_call 17; refine (HQ2.out _ (Kd.C_alloc (Kd.C_alloc XC.out _) _) (Kd.C_alloc (Kd.C_alloc YC.out _) _)).mono ?_; rintro e w1 ⟨rfl, hb⟩; have HB1 := Aside0.mk (below_step (below_alloc (below_alloc hB _) _) hb)))
        exact ⟨⟨k + 1, hlt, by simp, by have := HST.out; rw [Bool.true_and] at this; exact this.symm, HB1.out⟩, by simp [intOf]; omega⟩
    · have d1 : decide ((k : Int) < (n : Int)) = false := decide_eq_false (by omega)
      go_wp2
      go_ret
      have hkn : k = n := by omega
      have hv2 := hS
      rw [hkn, List.drop_of_length_le (by rw [HL.out, HN.out]; exact Nat.le_refl _), List.drop_of_length_le (by rw [HN.out]; exact Nat.le_refl _), sameL] at hv2
      exact ⟨by show Ending.returned (Value.bool true) = _; rw [hv2], hB⟩

set_option maxRecDepth 100000 in
theorem eqf_ne (l0 l1 : List S24) (A0 A1 : Option Addr) (c0 c1 : Nat) (w : World) (hl : l0.length ≠ l1.length) :
    Calls Tryz.prog 48 #[.slice A0 l0.length c0, .slice A1 l1.length c1, .func (.func 17) #[] #[]] w fun e w' => e = .returned (.bool (sameL l0 l1)) ∧ Below w.heap.size w w' := by
  rw [sameL_len l0 l1 hl]
  have d0 : ((l0.length : Int) != (l1.length : Int)) = true := bne_iff_ne.mpr (by omega)
  clear hl
  go_enter Tryz.func48, Tryz.ntmps48
  go_wp2
  go_ret
  exact ⟨rfl, Below.refl _ _⟩
/-- What the recursion knows of the elements. -/
def EqAt (l0 l1 : List S24) : Prop := ∀ (i : Nat) (W : World) (A A' : Option Addr) (c c' : Nat), i < l0.length → (l0.getD i z24).f4.length ≤ c → (l1.getD i z24).f4.length ≤ c' → Kd.C k24 W A (l0.getD i z24).f4.length (l0.getD i z24).f4 → Kd.C k24 W A' (l1.getD i z24).f4.length (l1.getD i z24).f4 →
      Calls Tryz.prog 17 #[encT (l0.getD i z24) A c, encT (l1.getD i z24) A' c'] W fun e w' => e = .returned (.bool (sameT (l0.getD i z24) (l1.getD i z24))) ∧ Below W.heap.size W w'
theorem eqf_calls (l0 l1 : List S24) (A0 A1 : Option Addr) (c0 c1 : Nat) (w : World) (h0 : Kd.C k24 w A0 l0.length l0) (h1 : Kd.C k24 w A1 l1.length l1) (hq : EqAt l0 l1) :
    Calls Tryz.prog 48 #[.slice A0 l0.length c0, .slice A1 l1.length c1, .func (.func 17) #[] #[]] w fun e w' => e = .returned (.bool (sameL l0 l1)) ∧ Below w.heap.size w w' := by
  by_cases hl : l0.length = l1.length
  · exact eqf_walk l0 l1 A0 A1 c0 c1 w h0 h1 hl hq
  · exact eqf_ne l0 l1 A0 A1 c0 c1 w hl

set_option maxRecDepth 100000 in
set_option maxHeartbeats 1000000 in
theorem same_no (a0 b0 : Int) (a1 b1 a2 b2 : ByteArray) (a3 b3 : Int) (la lb : List S24) (A A' : Option Addr) (c c' : Nat) (w : World)
    (h : ((a0 == b0) && ((a1.toList == b1.toList) && ((a2.toList == b2.toList) && (a3 == b3)))) = false) :
    Calls Tryz.prog 17 #[.agg #[.int .i64 a0, .string a1, .string a2, .int .i64 a3, .slice A la.length c], .agg #[.int .i64 b0, .string b1, .string b2, .int .i64 b3, .slice A' lb.length c']] w fun e w' => e = .returned (.bool false) ∧ Below w.heap.size w w' := by
  have hu := Tryz.underlying24
  have hB : Below w.heap.size w ((w.alloc (.cells #[.int .i64 a0, .string a1, .string a2, .int .i64 a3, .slice A la.length c] 24)).alloc (.cells #[.int .i64 b0, .string b1, .string b2, .int .i64 b3, .slice A' lb.length c'] 24)) := below_alloc (below_alloc (Below.refl _ _) _) _
  have HB := Aside0.mk hB
  clear hB
  rcases h0 : (a0 == b0) with _ | _
  · clear h
    go_enter Tryz.func17, Tryz.ntmps17
    go_wp2
    go_ret
    exact ⟨rfl, HB.out⟩
  rcases h1 : (a1.toList == b1.toList) with _ | _
  · clear h
    go_enter Tryz.func17, Tryz.ntmps17
    go_wp2
    go_ret
    exact ⟨rfl, HB.out⟩
  rcases h2 : (a2.toList == b2.toList) with _ | _
  · clear h
    go_enter Tryz.func17, Tryz.ntmps17
    go_wp2
    go_ret
    exact ⟨rfl, HB.out⟩
  rcases h3 : (a3 == b3) with _ | _
  · clear h
    go_enter Tryz.func17, Tryz.ntmps17
    go_wp2
    go_ret
    exact ⟨rfl, HB.out⟩
  rw [h0, h1, h2, h3] at h
  cases h

set_option maxRecDepth 100000 in
set_option maxHeartbeats 1000000 in
theorem same_yes (a0 b0 : Int) (a1 b1 a2 b2 : ByteArray) (a3 b3 : Int) (la lb : List S24) (A A' : Option Addr) (c c' : Nat) (w : World)
    (h0 : (a0 == b0) = true) (h1 : (a1.toList == b1.toList) = true) (h2 : (a2.toList == b2.toList) = true) (h3 : (a3 == b3) = true) (g0 : Kd.C k24 w A la.length la) (g1 : Kd.C k24 w A' lb.length lb) (hq : EqAt la lb) :
    Calls Tryz.prog 17 #[.agg #[.int .i64 a0, .string a1, .string a2, .int .i64 a3, .slice A la.length c], .agg #[.int .i64 b0, .string b1, .string b2, .int .i64 b3, .slice A' lb.length c']] w fun e w' => e = .returned (.bool (sameL la lb)) ∧ Below w.heap.size w w' := by
  have hu := Tryz.underlying24
  have HC : Aside0 (∀ W, Below w.heap.size w W → Calls Tryz.prog 48 #[.slice A la.length c, .slice A' lb.length c', .func (.func 17) #[] #[]] W fun e w' => e = .returned (.bool (sameL la lb)) ∧ Below W.heap.size W w') := ⟨fun W hW => eqf_calls la lb A A' c c' W (Kd.C_below g0 hW) (Kd.C_below g1 hW) hq⟩
  have hB : Below w.heap.size w ((w.alloc (.cells #[.int .i64 a0, .string a1, .string a2, .int .i64 a3, .slice A la.length c] 24)).alloc (.cells #[.int .i64 b0, .string b1, .string b2, .int .i64 b3, .slice A' lb.length c'] 24)) := below_alloc (below_alloc (Below.refl _ _) _) _
  have HB := Aside0.mk hB
  clear hB g0 g1 hq
  go_enter Tryz.func17, Tryz.ntmps17
  go_wp2_with (first | (go_at_call 48; refine (HC.out _ HB.out).mono ?_; rintro e w1 ⟨rfl, hb⟩; have HB1 := Aside0.mk (below_step HB.out hb)))
  go_ret
  exact ⟨rfl, HB1.out⟩

/-- Whether two terms are the same, by the tree. -/
def term_Same.f (a0 : Int) (a1 a2 : ByteArray) (a3 : Int) (la : List S24) (b0 : Int) (b1 b2 : ByteArray) (b3 : Int) (lb : List S24) : Option Bool := some (sameT ⟨a0, a1, a2, a3, la⟩ ⟨b0, b1, b2, b3, lb⟩)

theorem same_all : ∀ (n : Nat) (a b : S24) (A A' : Option Addr) (c c' : Nat) (w : World), SizeOf.sizeOf a ≤ n → Kd.C k24 w A a.f4.length a.f4 → Kd.C k24 w A' b.f4.length b.f4 →
    Calls Tryz.prog 17 #[encT a A c, encT b A' c'] w fun e w' => e = .returned (.bool (sameT a b)) ∧ Below w.heap.size w w'
  | 0, ⟨a0, a1, a2, a3, la⟩, b, A, A', c, c', w, hn, g0, g1 => by simp at hn
  | n + 1, ⟨a0, a1, a2, a3, la⟩, ⟨b0, b1, b2, b3, lb⟩, A, A', c, c', w, hn, g0, g1 => by
    have hq : EqAt la lb := fun i W A A' c c' hi _ _ k0 k1 => by
      refine same_all n _ _ A A' c c' W ?_ k0 k1
      have hm : la.getD i z24 ∈ la := by
        rw [List.getD_eq_getElem?_getD, List.getElem?_eq_getElem hi, Option.getD_some]
        exact List.getElem_mem hi
      have := List.sizeOf_lt_of_mem hm
      simp at hn
      omega
    show Calls Tryz.prog 17 #[.agg #[.int .i64 a0, .string a1, .string a2, .int .i64 a3, .slice A la.length c], .agg #[.int .i64 b0, .string b1, .string b2, .int .i64 b3, .slice A' lb.length c']] w fun e w' => e = .returned (.bool (sameT ⟨a0, a1, a2, a3, la⟩ ⟨b0, b1, b2, b3, lb⟩)) ∧ Below w.heap.size w w'
    rw [sameT]
    rcases h : ((a0 == b0) && ((a1.toList == b1.toList) && ((a2.toList == b2.toList) && (a3 == b3)))) with _ | _
    · have e : (a0 == b0 && (a1.toList == b1.toList && (a2.toList == b2.toList && (a3 == b3 && sameL la lb)))) = false := by
        revert h
        cases h0 : (a0 == b0) <;> cases h1 : (a1.toList == b1.toList) <;> cases h2 : (a2.toList == b2.toList) <;> cases h3 : (a3 == b3) <;> intro h <;> first | rfl | cases h
      rw [e]
      exact same_no a0 b0 a1 b1 a2 b2 a3 b3 la lb A A' c c' w h
    · simp only [Bool.and_eq_true] at h
      obtain ⟨h0, h1, h2, h3⟩ := h
      rw [h0, h1, h2, h3, Bool.true_and, Bool.true_and, Bool.true_and, Bool.true_and]
      exact same_yes a0 b0 a1 b1 a2 b2 a3 b3 la lb A A' c c' w h0 h1 h2 h3 g0 g1 hq
theorem term_Same.calls (a0 : Int) (a1 a2 : ByteArray) (a3 : Int) (A : Option Addr) (c : Nat) (la : List S24) (b0 : Int) (b1 b2 : ByteArray) (b3 : Int) (A' : Option Addr) (c' : Nat) (lb : List S24) (r : Bool) (w : World) (hr0 : Kd.C k24 w A la.length la) (hc0 : la.length ≤ c) (hr1 : Kd.C k24 w A' lb.length lb) (hc1 : lb.length ≤ c') (h : term_Same.f a0 a1 a2 a3 la b0 b1 b2 b3 lb = some r) :
    Calls Tryz.prog 17 #[.agg #[.int .i64 a0, .string a1, .string a2, .int .i64 a3, .slice A la.length c], .agg #[.int .i64 b0, .string b1, .string b2, .int .i64 b3, .slice A' lb.length c']] w fun e w' => e = .returned (.bool r) ∧ Below w.heap.size w w' := by
  obtain rfl := Option.some.inj h
  exact same_all _ ⟨a0, a1, a2, a3, la⟩ ⟨b0, b1, b2, b3, lb⟩ A A' c c' w (Nat.le_refl _) hr0 hr1
theorem same_f (x y : S24) : term_Same.f x.f0 x.f1 x.f2 x.f3 x.f4 y.f0 y.f1 y.f2 y.f3 y.f4 = some (sameT x y) := by
  cases x; cases y; rfl
end Go.Proofs.YtglgkhodminffaaGreatDoor
