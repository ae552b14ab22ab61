/- semver.Next: what it returns, for every version and every gap. -/
import Derived.Test.YtaikpnenegifnaaGreatDoorXMx6
import Derived.Test.YtaikpnenegifnaaGreatDoorHLib
namespace Go.Proofs.YtaikpnenegifnaaGreatDoor
open Go.RowKit Go.Proofs.YtaikpnenegifnaaGreatDoorW.PrintWords Go.Proofs.YtaikpnenegifnaaGreatDoor.XM

theorem bcell {W w1 : World} (hb : Below W.heap.size W w1) : (∀ b o, b < W.heap.size → w1.cell? ⟨b, o, none⟩ = W.cell? ⟨b, o, none⟩) ∧ (∀ b o, b < W.heap.size → w1.frozen? ⟨b, o, none⟩ = W.frozen? ⟨b, o, none⟩) :=
  ⟨fun b o h => hb.cell (p := ⟨b, o, none⟩) h, fun b o h => hb.frozen (p := ⟨b, o, none⟩) h⟩

def semver_Next.f (a b c g : Int) : Option (Int × Int × Int × Int) :=
  if 0 ≤ a ∧ a ≤ 999999 ∧ 0 ≤ b ∧ b ≤ 999999 ∧ 0 ≤ c ∧ c ≤ 999999 then
    (if g = 3 then (if a = 999999 then some (0, 0, 0, 9) else some (a + 1, 0, 0, 0))
     else if g = 2 then (if b = 999999 then some (0, 0, 0, 9) else some (a, b + 1, 0, 0))
     else if g = 1 then (if c = 999999 then some (0, 0, 0, 9) else some (a, b, c + 1, 0))
     else some (0, 0, 0, 2))
  else some (0, 0, 0, 2)

theorem in_f (a : Int) : semver_in.f a = some (decide (0 ≤ a ∧ a ≤ 999999)) := by
  unfold semver_in.f
  by_cases h : a ≥ 0
  · rw [if_pos h]; congr 1; simp; omega
  · rw [if_neg h]; congr 1; simp; omega
theorem right_f (a b c : Int) : semver_Right.f a b c = some (decide (0 ≤ a ∧ a ≤ 999999 ∧ 0 ≤ b ∧ b ≤ 999999 ∧ 0 ≤ c ∧ c ≤ 999999)) := by
  unfold semver_Right.f
  simp only [in_f, Option.bind_some]
  by_cases h1 : 0 ≤ a ∧ a ≤ 999999
  · by_cases h2 : 0 ≤ b ∧ b ≤ 999999
    · simp [h1, h2]
    · simp [h1, h2]; omega
  · simp [h1]; omega

theorem next_cells {w w1 : World} {a b c x y z : Value} {T : TypeId} (hb : Below ((w.alloc (.cells #[a, b, c] T)).alloc (.cells #[x, y, z] T)).heap.size ((w.alloc (.cells #[a, b, c] T)).alloc (.cells #[x, y, z] T)) w1) :
    w1.cell? ⟨w.heap.size, 0, none⟩ = some a ∧ w1.cell? ⟨w.heap.size, 1, none⟩ = some b ∧ w1.cell? ⟨w.heap.size, 2, none⟩ = some c ∧
    w1.cell? ⟨w.heap.size + 1, 0, none⟩ = some x ∧ w1.cell? ⟨w.heap.size + 1, 1, none⟩ = some y ∧ w1.cell? ⟨w.heap.size + 1, 2, none⟩ = some z ∧
    w1.frozen? ⟨w.heap.size, 0, none⟩ = false ∧ w1.frozen? ⟨w.heap.size, 1, none⟩ = false ∧ w1.frozen? ⟨w.heap.size, 2, none⟩ = false ∧
    w1.frozen? ⟨w.heap.size + 1, 0, none⟩ = false ∧ w1.frozen? ⟨w.heap.size + 1, 1, none⟩ = false ∧ w1.frozen? ⟨w.heap.size + 1, 2, none⟩ = false ∧ w.heap.size + 1 < w1.heap.size := by
  obtain ⟨hc, hf⟩ := bcell hb
  have hz := hb.size
  simp at hz
  refine ⟨(hc _ _ (by simp; omega)).trans ?_, (hc _ _ (by simp; omega)).trans ?_, (hc _ _ (by simp; omega)).trans ?_, (hc _ _ (by simp)).trans ?_, (hc _ _ (by simp)).trans ?_, (hc _ _ (by simp)).trans ?_, (hf _ _ (by simp; omega)).trans ?_, (hf _ _ (by simp; omega)).trans ?_, (hf _ _ (by simp; omega)).trans ?_, (hf _ _ (by simp)).trans ?_, (hf _ _ (by simp)).trans ?_, (hf _ _ (by simp)).trans ?_, by omega⟩ <;> go_simp

set_option maxHeartbeats 1000000 in
theorem next_no (a b c g : Int) (w : World) (hn : ¬ (0 ≤ a ∧ a ≤ 999999 ∧ 0 ≤ b ∧ b ≤ 999999 ∧ 0 ≤ c ∧ c ≤ 999999)) :
    Calls Tryz.prog 35 #[.agg #[.int .i64 a, .int .i64 b, .int .i64 c], .int .i64 g] w fun e w' => e = .returned (.tuple #[.agg #[.int .i64 0, .int .i64 0, .int .i64 0], .int .i64 2]) ∧ Below w.heap.size w w' := by
  have hr : semver_Right.f a b c = some false := by rw [right_f]; congr 1; exact decide_eq_false hn
  have HR := Aside0.mk hr
  clear hr hn
  go_enter Tryz.func35, Tryz.ntmps35
  go_wp2_with (go_at_call 69; refine (semver_Right.calls _ _ _ false _ HR.out).mono ?_; rintro e w1 ⟨rfl, hb⟩; obtain ⟨k0, k1, k2, m0, m1, m2, f0, f1, f2, n0, n1, n2, hz⟩ := next_cells hb)
  refine bodyPost_ret (v := .tuple #[.agg #[.int .i64 0, .int .i64 0, .int .i64 0], .int .i64 2]) (by simp [results, Tryz.results35, go_sem, m0, m1, m2]) rfl ⟨rfl, ?_⟩
  repeat (first | refine Below.setCell ?_ (by simp) _)
  exact (((Below.refl _ _).alloc (Nat.le_refl _) _).alloc (by simp) _).trans (hb.mono (by simp; omega))
set_option maxHeartbeats 1000000 in
theorem next_major_max (a b c g : Int) (w : World) (h : 0 ≤ a ∧ a ≤ 999999 ∧ 0 ≤ b ∧ b ≤ 999999 ∧ 0 ≤ c ∧ c ≤ 999999) (hg : g = 3) (hm : a = 999999) :
    Calls Tryz.prog 35 #[.agg #[.int .i64 a, .int .i64 b, .int .i64 c], .int .i64 g] w fun e w' => e = .returned (.tuple #[.agg #[.int .i64 0, .int .i64 0, .int .i64 0], .int .i64 9]) ∧ Below w.heap.size w w' := by
  have hr : semver_Right.f a b c = some true := by rw [right_f]; congr 1; exact decide_eq_true h
  have HR := Aside0.mk hr
  obtain ⟨ha0, ha1, hb0, hb1, hc0, hc1⟩ := h
  clear hr
  subst hg hm
  go_enter Tryz.func35, Tryz.ntmps35
  go_wp2_with (go_at_call 69; refine (semver_Right.calls _ _ _ true _ HR.out).mono ?_; rintro e w1 ⟨rfl, hb⟩; obtain ⟨k0, k1, k2, m0, m1, m2, f0, f1, f2, n0, n1, n2, hz⟩ := next_cells hb)
  refine bodyPost_ret (v := .tuple #[.agg #[.int .i64 0, .int .i64 0, .int .i64 0], .int .i64 9]) (by simp [results, Tryz.results35, go_sem, m0, m1, m2]) rfl ⟨rfl, ?_⟩
  repeat (first | refine Below.setCell ?_ (by simp) _)
  exact (((Below.refl _ _).alloc (Nat.le_refl _) _).alloc (by simp) _).trans (hb.mono (by simp; omega))
set_option maxHeartbeats 1000000 in
theorem next_major (a b c g : Int) (w : World) (h : 0 ≤ a ∧ a ≤ 999999 ∧ 0 ≤ b ∧ b ≤ 999999 ∧ 0 ≤ c ∧ c ≤ 999999) (hg : g = 3) (hm : ¬ a = 999999) :
    Calls Tryz.prog 35 #[.agg #[.int .i64 a, .int .i64 b, .int .i64 c], .int .i64 g] w fun e w' => e = .returned (.tuple #[.agg #[.int .i64 (a + 1), .int .i64 0, .int .i64 0], .int .i64 0]) ∧ Below w.heap.size w w' := by
  have hr : semver_Right.f a b c = some true := by rw [right_f]; congr 1; exact decide_eq_true h
  have HR := Aside0.mk hr
  obtain ⟨ha0, ha1, hb0, hb1, hc0, hc1⟩ := h
  clear hr
  subst hg
  have hm' : (a == 999999) = false := by simpa using hm
  clear hm
  go_enter Tryz.func35, Tryz.ntmps35
  go_wp2_with (go_at_call 69; refine (semver_Right.calls _ _ _ true _ HR.out).mono ?_; rintro e w1 ⟨rfl, hb⟩; obtain ⟨k0, k1, k2, m0, m1, m2, f0, f1, f2, n0, n1, n2, hz⟩ := next_cells hb)
  refine bodyPost_ret (v := .tuple #[.agg #[.int .i64 (a + 1), .int .i64 0, .int .i64 0], .int .i64 0]) (by simp [results, Tryz.results35, go_sem, m0, m1, m2]) rfl ⟨rfl, ?_⟩
  repeat (first | refine Below.setCell ?_ (by simp) _)
  exact (((Below.refl _ _).alloc (Nat.le_refl _) _).alloc (by simp) _).trans (hb.mono (by simp; omega))
set_option maxHeartbeats 1000000 in
theorem next_minor_max (a b c g : Int) (w : World) (h : 0 ≤ a ∧ a ≤ 999999 ∧ 0 ≤ b ∧ b ≤ 999999 ∧ 0 ≤ c ∧ c ≤ 999999) (hg : g = 2) (hm : b = 999999) :
    Calls Tryz.prog 35 #[.agg #[.int .i64 a, .int .i64 b, .int .i64 c], .int .i64 g] w fun e w' => e = .returned (.tuple #[.agg #[.int .i64 0, .int .i64 0, .int .i64 0], .int .i64 9]) ∧ Below w.heap.size w w' := by
  have hr : semver_Right.f a b c = some true := by rw [right_f]; congr 1; exact decide_eq_true h
  have HR := Aside0.mk hr
  obtain ⟨ha0, ha1, hb0, hb1, hc0, hc1⟩ := h
  clear hr
  subst hg hm
  go_enter Tryz.func35, Tryz.ntmps35
  go_wp2_with (go_at_call 69; refine (semver_Right.calls _ _ _ true _ HR.out).mono ?_; rintro e w1 ⟨rfl, hb⟩; obtain ⟨k0, k1, k2, m0, m1, m2, f0, f1, f2, n0, n1, n2, hz⟩ := next_cells hb)
  refine bodyPost_ret (v := .tuple #[.agg #[.int .i64 0, .int .i64 0, .int .i64 0], .int .i64 9]) (by simp [results, Tryz.results35, go_sem, m0, m1, m2]) rfl ⟨rfl, ?_⟩
  repeat (first | refine Below.setCell ?_ (by simp) _)
  exact (((Below.refl _ _).alloc (Nat.le_refl _) _).alloc (by simp) _).trans (hb.mono (by simp; omega))
set_option maxHeartbeats 1000000 in
theorem next_minor (a b c g : Int) (w : World) (h : 0 ≤ a ∧ a ≤ 999999 ∧ 0 ≤ b ∧ b ≤ 999999 ∧ 0 ≤ c ∧ c ≤ 999999) (hg : g = 2) (hm : ¬ b = 999999) :
    Calls Tryz.prog 35 #[.agg #[.int .i64 a, .int .i64 b, .int .i64 c], .int .i64 g] w fun e w' => e = .returned (.tuple #[.agg #[.int .i64 a, .int .i64 (b + 1), .int .i64 0], .int .i64 0]) ∧ Below w.heap.size w w' := by
  have hr : semver_Right.f a b c = some true := by rw [right_f]; congr 1; exact decide_eq_true h
  have HR := Aside0.mk hr
  obtain ⟨ha0, ha1, hb0, hb1, hc0, hc1⟩ := h
  clear hr
  subst hg
  have hm' : (b == 999999) = false := by simpa using hm
  clear hm
  go_enter Tryz.func35, Tryz.ntmps35
  go_wp2_with (go_at_call 69; refine (semver_Right.calls _ _ _ true _ HR.out).mono ?_; rintro e w1 ⟨rfl, hb⟩; obtain ⟨k0, k1, k2, m0, m1, m2, f0, f1, f2, n0, n1, n2, hz⟩ := next_cells hb)
  refine bodyPost_ret (v := .tuple #[.agg #[.int .i64 a, .int .i64 (b + 1), .int .i64 0], .int .i64 0]) (by simp [results, Tryz.results35, go_sem, m0, m1, m2]) rfl ⟨rfl, ?_⟩
  repeat (first | refine Below.setCell ?_ (by simp) _)
  exact (((Below.refl _ _).alloc (Nat.le_refl _) _).alloc (by simp) _).trans (hb.mono (by simp; omega))
set_option maxHeartbeats 1000000 in
theorem next_patch_max (a b c g : Int) (w : World) (h : 0 ≤ a ∧ a ≤ 999999 ∧ 0 ≤ b ∧ b ≤ 999999 ∧ 0 ≤ c ∧ c ≤ 999999) (hg : g = 1) (hm : c = 999999) :
    Calls Tryz.prog 35 #[.agg #[.int .i64 a, .int .i64 b, .int .i64 c], .int .i64 g] w fun e w' => e = .returned (.tuple #[.agg #[.int .i64 0, .int .i64 0, .int .i64 0], .int .i64 9]) ∧ Below w.heap.size w w' := by
  have hr : semver_Right.f a b c = some true := by rw [right_f]; congr 1; exact decide_eq_true h
  have HR := Aside0.mk hr
  obtain ⟨ha0, ha1, hb0, hb1, hc0, hc1⟩ := h
  clear hr
  subst hg hm
  go_enter Tryz.func35, Tryz.ntmps35
  go_wp2_with (go_at_call 69; refine (semver_Right.calls _ _ _ true _ HR.out).mono ?_; rintro e w1 ⟨rfl, hb⟩; obtain ⟨k0, k1, k2, m0, m1, m2, f0, f1, f2, n0, n1, n2, hz⟩ := next_cells hb)
  refine bodyPost_ret (v := .tuple #[.agg #[.int .i64 0, .int .i64 0, .int .i64 0], .int .i64 9]) (by simp [results, Tryz.results35, go_sem, m0, m1, m2]) rfl ⟨rfl, ?_⟩
  repeat (first | refine Below.setCell ?_ (by simp) _)
  exact (((Below.refl _ _).alloc (Nat.le_refl _) _).alloc (by simp) _).trans (hb.mono (by simp; omega))
set_option maxHeartbeats 1000000 in
theorem next_patch (a b c g : Int) (w : World) (h : 0 ≤ a ∧ a ≤ 999999 ∧ 0 ≤ b ∧ b ≤ 999999 ∧ 0 ≤ c ∧ c ≤ 999999) (hg : g = 1) (hm : ¬ c = 999999) :
    Calls Tryz.prog 35 #[.agg #[.int .i64 a, .int .i64 b, .int .i64 c], .int .i64 g] w fun e w' => e = .returned (.tuple #[.agg #[.int .i64 a, .int .i64 b, .int .i64 (c + 1)], .int .i64 0]) ∧ Below w.heap.size w w' := by
  have hr : semver_Right.f a b c = some true := by rw [right_f]; congr 1; exact decide_eq_true h
  have HR := Aside0.mk hr
  obtain ⟨ha0, ha1, hb0, hb1, hc0, hc1⟩ := h
  clear hr
  subst hg
  have hm' : (c == 999999) = false := by simpa using hm
  clear hm
  go_enter Tryz.func35, Tryz.ntmps35
  go_wp2_with (go_at_call 69; refine (semver_Right.calls _ _ _ true _ HR.out).mono ?_; rintro e w1 ⟨rfl, hb⟩; obtain ⟨k0, k1, k2, m0, m1, m2, f0, f1, f2, n0, n1, n2, hz⟩ := next_cells hb)
  refine bodyPost_ret (v := .tuple #[.agg #[.int .i64 a, .int .i64 b, .int .i64 (c + 1)], .int .i64 0]) (by simp [results, Tryz.results35, go_sem, m0, m1, m2]) rfl ⟨rfl, ?_⟩
  repeat (first | refine Below.setCell ?_ (by simp) _)
  exact (((Below.refl _ _).alloc (Nat.le_refl _) _).alloc (by simp) _).trans (hb.mono (by simp; omega))
set_option maxHeartbeats 1000000 in
theorem next_else (a b c g : Int) (w : World) (h : 0 ≤ a ∧ a ≤ 999999 ∧ 0 ≤ b ∧ b ≤ 999999 ∧ 0 ≤ c ∧ c ≤ 999999) (h3 : ¬ g = 3) (h2 : ¬ g = 2) (h1 : ¬ g = 1) :
    Calls Tryz.prog 35 #[.agg #[.int .i64 a, .int .i64 b, .int .i64 c], .int .i64 g] w fun e w' => e = .returned (.tuple #[.agg #[.int .i64 0, .int .i64 0, .int .i64 0], .int .i64 2]) ∧ Below w.heap.size w w' := by
  have hr : semver_Right.f a b c = some true := by rw [right_f]; congr 1; exact decide_eq_true h
  have HR := Aside0.mk hr
  obtain ⟨ha0, ha1, hb0, hb1, hc0, hc1⟩ := h
  clear hr
  have g3 : (g == 3) = false := by simpa using h3
  have g2 : (g == 2) = false := by simpa using h2
  have g1 : (g == 1) = false := by simpa using h1
  clear h3 h2 h1
  go_enter Tryz.func35, Tryz.ntmps35
  go_wp2_with (go_at_call 69; refine (semver_Right.calls _ _ _ true _ HR.out).mono ?_; rintro e w1 ⟨rfl, hb⟩; obtain ⟨k0, k1, k2, m0, m1, m2, f0, f1, f2, n0, n1, n2, hz⟩ := next_cells hb)
  refine bodyPost_ret (v := .tuple #[.agg #[.int .i64 0, .int .i64 0, .int .i64 0], .int .i64 2]) (by simp [results, Tryz.results35, go_sem, m0, m1, m2]) rfl ⟨rfl, ?_⟩
  repeat (first | refine Below.setCell ?_ (by simp) _)
  exact (((Below.refl _ _).alloc (Nat.le_refl _) _).alloc (by simp) _).trans (hb.mono (by simp; omega))

theorem semver_Next.calls (a0_0 a0_1 a0_2 a1 : Int) (r1 r2 r3 r4 : Int) (w : World) (h : semver_Next.f a0_0 a0_1 a0_2 a1 = some (r1, r2, r3, r4)) :
    Calls Tryz.prog 35 #[.agg #[.int .i64 a0_0, .int .i64 a0_1, .int .i64 a0_2], .int .i64 a1] w fun e w' => e = .returned (.tuple #[.agg #[.int .i64 r1, .int .i64 r2, .int .i64 r3], .int .i64 r4]) ∧ Below w.heap.size w w' := by
  unfold semver_Next.f at h
  split at h
  · rename_i hok
    by_cases h3 : a1 = 3
    · rw [if_pos h3] at h
      split at h <;> rename_i hm <;> simp only [Option.some.injEq, Prod.mk.injEq] at h <;> obtain ⟨rfl, rfl, rfl, rfl⟩ := h
      · exact next_major_max _ _ _ _ w hok h3 hm
      · exact next_major _ _ _ _ w hok h3 hm
    · rw [if_neg h3] at h
      by_cases h2 : a1 = 2
      · rw [if_pos h2] at h
        split at h <;> rename_i hm <;> simp only [Option.some.injEq, Prod.mk.injEq] at h <;> obtain ⟨rfl, rfl, rfl, rfl⟩ := h
        · exact next_minor_max _ _ _ _ w hok h2 hm
        · exact next_minor _ _ _ _ w hok h2 hm
      · rw [if_neg h2] at h
        by_cases h1 : a1 = 1
        · rw [if_pos h1] at h
          split at h <;> rename_i hm <;> simp only [Option.some.injEq, Prod.mk.injEq] at h <;> obtain ⟨rfl, rfl, rfl, rfl⟩ := h
          · exact next_patch_max _ _ _ _ w hok h1 hm
          · exact next_patch _ _ _ _ w hok h1 hm
        · rw [if_neg h1] at h
          simp only [Option.some.injEq, Prod.mk.injEq] at h
          obtain ⟨rfl, rfl, rfl, rfl⟩ := h
          exact next_else _ _ _ _ w hok h3 h2 h1
  · rename_i hn
    simp only [Option.some.injEq, Prod.mk.injEq] at h
    obtain ⟨rfl, rfl, rfl, rfl⟩ := h
    exact next_no _ _ _ _ w hn
end Go.Proofs.YtaikpnenegifnaaGreatDoor
