/- TermTwice as a plain law: two substitutions one after the other are the one of both, where the second variable is not in what the first puts. -/
import Derived.Test.YtglgkhodminffaaGreatDoorPTermCT
namespace Go.Proofs.YtglgkhodminffaaGreatDoor.PT
open Px Go Go.RowKit Go.Proofs
set_option linter.unusedVariables false
set_option linter.unusedSimpArgs false
set_option maxRecDepth 100000
theorem alive_does : Does tb 8 [] (.bool true) := ⟨1, fun k hk => by
  obtain ⟨j, rfl⟩ : ∃ j, k = j + 1 := ⟨k - 1, by omega⟩
  rfl⟩
theorem put_two {a b : List Nat} {x y : Tm} (hab : a ≠ b) (s : List Nat) : Tm.put [a, b] [x, y] s = if s = a then some x else if s = b then some y else none := by
  unfold Tm.put
  by_cases h1 : s = a
  · subst h1; simp [List.findIdx?_cons]
  · rw [if_neg h1]
    by_cases h2 : s = b
    · subst h2; simp [List.findIdx?_cons, hab]
    · rw [if_neg h2]
      have e1 : ¬ a = s := fun h => h1 h.symm
      have e2 : ¬ b = s := fun h => h2 h.symm
      simp [List.findIdx?_cons, e1, e2]
theorem put_one {a : List Nat} {x : Tm} (s : List Nat) : Tm.put [a] [x] s = if s = a then some x else none := by
  unfold Tm.put
  by_cases h1 : s = a
  · subst h1; simp [List.findIdx?_cons]
  · rw [if_neg h1]
    have e1 : ¬ a = s := fun h => h1 h.symm
    simp [List.findIdx?_cons, e1]
theorem twice_sub {a b : List Nat} {x y : Tm} (hab : a ≠ b) (hx : ¬ Tm.Has b x) (t : Tm) : Tm.sub [b] [y] (Tm.sub [a] [x] t) = Tm.sub [a, b] [x, y] t := by
  induction t using Tm.ind with
  | h k p s n l ih =>
    have hl : (l.map (Tm.sub [a] [x])).map (Tm.sub [b] [y]) = l.map (Tm.sub [a, b] [x, y]) := by
      rw [List.map_map]
      exact List.map_congr_left fun t ht => ih t ht
    rw [Tm.sub_mk, Tm.sub_mk]
    by_cases hk : k = 1
    · rw [if_pos hk, if_pos hk, put_one, put_two hab]
      by_cases h1 : s = a
      · rw [if_pos h1, if_pos h1]
        exact Tm.sub_none x fun z hz => by rw [List.mem_singleton.1 hz]; exact hx
      · rw [if_neg h1, if_neg h1]
        simp only
        rw [Tm.sub_mk, if_pos hk, put_one, hl]
    · rw [if_neg hk, if_neg hk, Tm.sub_mk, if_neg hk, hl]
theorem sub_swap {a b : List Nat} {x y : Tm} (hab : a ≠ b) (t : Tm) : Tm.sub [a, b] [x, y] t = Tm.sub [b, a] [y, x] t := by
  induction t using Tm.ind with
  | h k p s n l ih =>
    have hl : l.map (Tm.sub [a, b] [x, y]) = l.map (Tm.sub [b, a] [y, x]) := List.map_congr_left fun t ht => ih t ht
    rw [Tm.sub_mk, Tm.sub_mk, hl, put_two hab, put_two (Ne.symm hab)]
    by_cases h1 : s = a
    · subst h1; simp [hab]
    · by_cases h2 : s = b
      · subst h2; simp [Ne.symm hab]
      · simp [h1, h2]
theorem few_thin {t : Tm} (h : Tm.wt t 0 ≤ 600) : Tm.nodes t ≤ 600 ∧ Tm.Thin 600 t := by
  have := Tm.wt_nodes t 0 (by omega)
  exact ⟨by omega, Tm.thin_mono (by omega) t (Tm.thin_nodes t)⟩
theorem twice_true (t x y : Tm) (a b : List Nat) : Does tb 6 [.pv 24 t.enc, .pv 24 x.enc, .pv 24 y.enc, .str a, .str b] (.bool true) := by
  have ha := alive_does.ev
  have hft := (few_does t).ev
  have hfx := (few_does x).ev
  have hfy := (few_does y).ev
  have body := fun k => F6_body (callX tb k) k t.enc x.enc y.enc (.str a) (.str b)
  simp only [s_str] at body
  by_cases ht : Tm.wt t 0 ≤ 600
  · obtain ⟨nt, tt⟩ := few_thin ht
    have hsz := (size_does t (by omega)).ev
    rw [decide_eq_true ht] at hft
    by_cases h60 : 60 < Tm.nodes t
    · refine Does.step rfl ((ha.and (hft.and hsz)).mono fun k hk => ?_)
      obtain ⟨k1, k2, k3⟩ := hk
      refine (body k).trans ?_
      unfold F6
      rw [k2, bindA_some, k3]
      simp only [b_bool, notB_true, cond_false, bindA_some, i_int]
      rw [ltI_t (show (60 : Int) < (Tm.nodes t : Int) by omega), k1]
      rfl
    · have c60 : ltI (60 : Int) (Tm.nodes t : Int) = false := ltI_f (by omega)
      by_cases hx : Tm.wt x 0 ≤ 600
      · obtain ⟨nx, tx⟩ := few_thin hx
        rw [decide_eq_true hx] at hfx
        by_cases hy : Tm.wt y 0 ≤ 600
        · obtain ⟨ny, ty⟩ := few_thin hy
          rw [decide_eq_true hy] at hfy
          by_cases hab : a = b
          · refine Does.step rfl ((ha.and (hft.and (hsz.and (hfx.and hfy)))).mono fun k hk => ?_)
            obtain ⟨k1, k2, k3, k4, k5⟩ := hk
            refine (body k).trans ?_
            unfold F6
            rw [k2, bindA_some, k3, k4, k5]
            simp only [b_bool, notB_true, cond_false, bindA_some, i_int, s_str]
            rw [c60, eqS_t hab, k1]
            rfl
          · have hvx := (vars_does x [] (by simp; omega)).ev
            have hlx := Tm.vars_len x []
            have hinx := (in_does b (Tm.vars [] x) (by simp at hlx; omega)).ev
            by_cases hbx : b ∈ Tm.vars [] x
            · refine Does.step rfl ((ha.and (hft.and (hsz.and (hfx.and (hfy.and (hvx.and hinx)))))).mono fun k hk => ?_)
              obtain ⟨k1, k2, k3, k4, k5, k6, k7⟩ := hk
              rw [decide_eq_true hbx] at k7
              refine (body k).trans ?_
              unfold F6
              rw [k2, bindA_some, k3, k4, k5]
              simp only [b_bool, notB_true, cond_false, bindA_some, i_int, s_str]
              have k6 : callX tb k 20 [.pv 29 (.node []), .pv 24 x.enc] [] = _ := k6
              rw [c60, eqS_f hab, k6]
              simp only [cond_false, bindA_some]
              rw [k7, k1]
              rfl
            · have nbx : ¬ Tm.Has b x := fun h => hbx ((Tm.mem_vars x []).2 (.inr h))
              have T1 : Tm.Thin 100000 t := Tm.thin_mono (by omega) t tt
              have X1 : Tm.Thin 100000 x := Tm.thin_mono (by omega) x tx
              have Y1 : Tm.Thin 100000 y := Tm.thin_mono (by omega) y ty
              have S1 : Tm.Thin 100000 (Tm.sub [a] [x] t) := Tm.sub_thin (fun u hu => by rw [List.mem_singleton.1 hu]; exact X1) t T1
              have S2 : Tm.Thin 100000 (Tm.sub [b] [y] t) := Tm.sub_thin (fun u hu => by rw [List.mem_singleton.1 hu]; exact Y1) t T1
              have S12 : Tm.Thin 1000000 (Tm.sub [a, b] [x, y] t) := Tm.thin_mono (by omega) _ (Tm.sub_thin (N := 100000) (fun u hu => by
                rcases List.mem_cons.1 hu with rfl | hu
                · exact X1
                · rw [List.mem_singleton.1 hu]; exact Y1) t T1)
              have h1 := (subst_does [a] [x] (by simp) t T1).ev
              have h2 := (subst_does [b] [y] (by simp) _ S1).ev
              have h12 := (subst_does [a, b] [x, y] (by simp) t T1).ev
              have hvy := (vars_does y [] (by simp; omega)).ev
              have hly := Tm.vars_len y []
              have hiny := (in_does a (Tm.vars [] y) (by simp at hly; omega)).ev
              have hs := (same_refl (Tm.sub [a, b] [x, y] t) S12).ev
              rw [twice_sub hab nbx] at h2
              by_cases hay : a ∈ Tm.vars [] y
              · refine Does.step rfl ((ha.and (hft.and (hsz.and (hfx.and (hfy.and (hvx.and (hinx.and (h1.and (h2.and (h12.and (hvy.and (hiny.and hs)))))))))))).mono fun k hk => ?_)
                obtain ⟨k1, k2, k3, k4, k5, k6, k7, k8, k9, k10, k11, k12, k13⟩ := hk
                rw [decide_eq_false hbx] at k7
                rw [decide_eq_true hay] at k12
                refine (body k).trans ?_
                unfold F6
                rw [k2, bindA_some, k3, k4, k5]
                simp only [b_bool, notB_true, cond_false, bindA_some, i_int, s_str]
                have k6 : callX tb k 20 [.pv 29 (.node []), .pv 24 x.enc] [] = _ := k6
                have k11 : callX tb k 20 [.pv 29 (.node []), .pv 24 y.enc] [] = _ := k11
                rw [c60, eqS_f hab, k6]
                simp only [cond_false, bindA_some]
                rw [k7]
                simp only [cond_false, bindA_some, b_bool]
                have k8 : callX tb k 23 [.pv 24 t.enc, .pv 29 (.node [.str a]), .pv 22 (.node [x.enc])] [] = _ := k8
                have k9 : callX tb k 23 [.pv 24 (Tm.sub [a] [x] t).enc, .pv 29 (.node [.str b]), .pv 22 (.node [y.enc])] [] = _ := k9
                have k10 : callX tb k 23 [.pv 24 t.enc, .pv 29 (.node [.str a, .str b]), .pv 22 (.node [x.enc, y.enc])] [] = _ := k10
                rw [k8, bindA_some, k9, bindA_some, k11, bindA_some, k12]
                simp only [cond_true, bindA_some, b_bool]
                rw [k10, bindA_some, k13, bindA_some, k1]
                rfl
              · have nay : ¬ Tm.Has a y := fun h => hay ((Tm.mem_vars y []).2 (.inr h))
                have h3 := (subst_does [b] [y] (by simp) t T1).ev
                have h4 := (subst_does [a] [x] (by simp) _ S2).ev
                rw [twice_sub (Ne.symm hab) nay, ← sub_swap hab] at h4
                refine Does.step rfl ((ha.and (hft.and (hsz.and (hfx.and (hfy.and (hvx.and (hinx.and (h1.and (h2.and (h12.and (hvy.and (hiny.and (hs.and (h3.and h4)))))))))))))).mono fun k hk => ?_)
                obtain ⟨k1, k2, k3, k4, k5, k6, k7, k8, k9, k10, k11, k12, k13, k14, k15⟩ := hk
                rw [decide_eq_false hbx] at k7
                rw [decide_eq_false hay] at k12
                refine (body k).trans ?_
                unfold F6
                rw [k2, bindA_some, k3, k4, k5]
                simp only [b_bool, notB_true, cond_false, bindA_some, i_int, s_str]
                have k6 : callX tb k 20 [.pv 29 (.node []), .pv 24 x.enc] [] = _ := k6
                have k11 : callX tb k 20 [.pv 29 (.node []), .pv 24 y.enc] [] = _ := k11
                rw [c60, eqS_f hab, k6]
                simp only [cond_false, bindA_some]
                rw [k7]
                simp only [cond_false, bindA_some, b_bool]
                have k8 : callX tb k 23 [.pv 24 t.enc, .pv 29 (.node [.str a]), .pv 22 (.node [x.enc])] [] = _ := k8
                have k9 : callX tb k 23 [.pv 24 (Tm.sub [a] [x] t).enc, .pv 29 (.node [.str b]), .pv 22 (.node [y.enc])] [] = _ := k9
                have k10 : callX tb k 23 [.pv 24 t.enc, .pv 29 (.node [.str a, .str b]), .pv 22 (.node [x.enc, y.enc])] [] = _ := k10
                have k14 : callX tb k 23 [.pv 24 t.enc, .pv 29 (.node [.str b]), .pv 22 (.node [y.enc])] [] = _ := k14
                have k15 : callX tb k 23 [.pv 24 (Tm.sub [b] [y] t).enc, .pv 29 (.node [.str a]), .pv 22 (.node [x.enc])] [] = _ := k15
                rw [k8, bindA_some, k9, bindA_some, k11, bindA_some, k12]
                simp only [cond_false, bindA_some, b_bool]
                rw [k14, bindA_some, k15, bindA_some, k10, bindA_some, k13]
                simp only [cond_true, bindA_some, b_bool]
                rw [k1]
                rfl
        · rw [decide_eq_false hy] at hfy
          refine Does.step rfl ((ha.and (hft.and (hsz.and (hfx.and hfy)))).mono fun k hk => ?_)
          obtain ⟨k1, k2, k3, k4, k5⟩ := hk
          refine (body k).trans ?_
          unfold F6
          rw [k2, bindA_some, k3, k4, k5]
          simp only [b_bool, notB_true, notB_false, cond_false, cond_true, bindA_some, i_int]
          rw [c60, k1]
          rfl
      · rw [decide_eq_false hx] at hfx
        refine Does.step rfl ((ha.and (hft.and (hsz.and hfx))).mono fun k hk => ?_)
        obtain ⟨k1, k2, k3, k4⟩ := hk
        refine (body k).trans ?_
        unfold F6
        rw [k2, bindA_some, k3, k4]
        simp only [b_bool, notB_true, notB_false, cond_false, cond_true, bindA_some, i_int]
        rw [c60, k1]
        rfl
  · rw [decide_eq_false ht] at hft
    refine Does.step rfl ((ha.and hft).mono fun k hk => ?_)
    obtain ⟨k1, k2⟩ := hk
    refine (body k).trans ?_
    unfold F6
    rw [k2]
    simp only [b_bool, notB_false, cond_true, bindA_some]
    rw [k1]
    rfl
end Go.Proofs.YtglgkhodminffaaGreatDoor.PT
