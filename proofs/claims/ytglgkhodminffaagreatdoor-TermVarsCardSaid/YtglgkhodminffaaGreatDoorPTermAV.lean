/- What the functions on terms answer (weight, Few, Size, Same, Vars, In, Index, Subst), for every term, as plain trees. -/
import Derived.Test.YtglgkhodminffaaGreatDoorFV
namespace Go.Proofs.YtglgkhodminffaaGreatDoor.PV
open Px Go Go.RowKit Go.Proofs
set_option linter.unusedVariables false
set_option linter.unusedSimpArgs false
set_option maxRecDepth 100000
theorem weight_does (t : Tm) : ∀ d : Nat, d ≤ 91 → Does tb 26 [.pv 24 t.enc, .int .i64 (d : Int)] (.int (Tm.wt t d : Nat)) := by
  induction t using Tm.ind with
  | h kk p s n l ih =>
    intro d hd
    have hl : Ev fun k => ∀ t ∈ l, d + 1 ≤ 91 → callX tb k 26 [.pv 24 t.enc, .int .i64 ((d + 1 : Nat) : Int)] [] = some (.int (Tm.wt t (d + 1) : Nat), []) := by
      refine Ev.list fun t ht => ?_
      by_cases h : d + 1 ≤ 91
      · exact (ih t ht (d + 1) h).ev.mono fun k hk _ => hk
      · exact Ev.of fun k h' => absurd h' h
    refine Does.step rfl ((hl.and (Ev.ge (l.length + 1))).mono fun k hkm => ?_)
    obtain ⟨hk, hm⟩ := hkm
    refine (F26_body (callX tb k) k (Tm.enc (.mk kk p s n l)) (.int d)).trans ?_
    unfold F26
    simp only [i_int, ltI_eq, Tm.enc_l, Tm.enc_p, Tm.enc_s, s_str, l_node, lenP_map, Tm.l, Tm.p, Tm.s]
    rw [Tm.wt]
    by_cases h1 : 90 < d
    · rw [if_pos h1]
      have : decide ((90 : Int) < (d : Int)) = true := decide_eq_true (by omega)
      rw [this]; rfl
    · rw [if_neg h1]
      have e1 : decide ((90 : Int) < (d : Int)) = false := decide_eq_false (by omega)
      rw [e1]
      by_cases h2 : 300 < l.length
      · rw [if_pos h2]
        have : decide ((300 : Int) < (l.length : Int)) = true := decide_eq_true (by omega)
        rw [this]; rfl
      · rw [if_neg h2]
        have e2 : decide ((300 : Int) < (l.length : Int)) = false := decide_eq_false (by omega)
        rw [e2]
        simp only [cond_false]
        have e3 : notB (eqI (20 : Int) (0 : Int)) = true := by decide
        rw [needA_of e3]
        have e4 : addW .i64 (1 : Int) (quoW .i64 (addW .i64 (minI (100000 : Int) (lenS p)) (minI (100000 : Int) (lenS s))) (20 : Int)) = ((1 + (min p.length 100000 + min s.length 100000) / 20 : Nat) : Int) := by
          rw [minI_eq, minI_eq]
          have m1 : min (100000 : Int) (lenS p) = ((min p.length 100000 : Nat) : Int) := by simp only [lenS]; omega
          have m2 : min (100000 : Int) (lenS s) = ((min s.length 100000 : Nat) : Int) := by simp only [lenS]; omega
          rw [m1, m2, addW_i64 (x := ((min p.length 100000 : Nat) : Int)) (by omega) (by omega)]
          have m3 : quoW .i64 (((min p.length 100000 : Nat) : Int) + ((min s.length 100000 : Nat) : Int)) 20 = (((min p.length 100000 + min s.length 100000) / 20 : Nat) : Int) := by
            unfold quoW
            have : (((min p.length 100000 : Nat) : Int) + ((min s.length 100000 : Nat) : Int)).tdiv 20 = (((min p.length 100000 + min s.length 100000) / 20 : Nat) : Int) := by
              rw [← Int.natCast_add]; rfl
            rw [this, wrap_i64 (by omega) (by omega)]
          rw [m3, addW_i64 (by omega) (by omega)]
          omega
        rw [e4]
        have hloop := loopX_fold (round := F26r0L (callX tb k) k) l (fun i (a : Nat) => [PV.int (d : Int), PV.int (a : Int), PV.int (l.length : Int), PV.int (i : Int), Tm.enc (.mk kk p s n l)])
          (fun a t => if a < 100000 then a + Tm.wt t (d + 1) else a) (.int 2) (fun a => [PV.int (a : Int), Tm.enc (.mk kk p s n l)]) (fun _ a => a < 200000) (by decide)
          (fun i t a ht ha => ⟨fun K => by
            have hi : i < l.length := (List.getElem?_eq_some_iff.1 ht).1
            have htl : l[i] = t := (List.getElem?_eq_some_iff.1 ht).2
            show F26r0 (callX tb k) k (.int (d : Int)) (.int (a : Int)) (.int (l.length : Int)) (.int (i : Int)) (Tm.enc (.mk kk p s n l)) K = _
            unfold F26r0
            simp only [i_int, ltI_eq, Tm.enc_l, l_node, Tm.l]
            have c1 : decide ((i : Int) < (l.length : Int)) = true := decide_eq_true (by omega)
            rw [c1]
            simp only [cond_true]
            rw [addW_i64 (x := (i : Int)) (by omega) (by omega)]
            have c5 : (i : Int) + 1 = ((i + 1 : Nat) : Int) := by omega
            by_cases h : a < 100000
            · have c2 : decide ((a : Int) < 100000) = true := decide_eq_true (by omega)
              rw [c2, if_pos h]
              simp only [cond_true]
              rw [inP_map hi, needA_true, getP_map _ _ _ hi, htl, addW_i64 (x := (d : Int)) (by omega) (by omega)]
              have c3 : (d : Int) + 1 = ((d + 1 : Nat) : Int) := by omega
              rw [c3, hk t (List.mem_of_getElem? ht) (by omega), bindA_some]
              have w := Tm.wt_le t (d + 1)
              simp only [i_int]
              rw [addW_i64 (by omega) (by omega), c5]
              rfl
            · have c2 : decide ((a : Int) < 100000) = false := decide_eq_false (by omega)
              rw [c2, if_neg h]
              simp only [cond_false]
              rw [c5], by
            have w := Tm.wt_le t (d + 1)
            split <;> omega⟩)
          (fun a ha K => by
            show F26r0 (callX tb k) k (.int (d : Int)) (.int (a : Int)) (.int (l.length : Int)) (.int (l.length : Int)) (Tm.enc (.mk kk p s n l)) K = _
            unfold F26r0
            simp only [i_int, ltI_eq]
            have c1 : decide ((l.length : Int) < (l.length : Int)) = false := decide_eq_false (by omega)
            rw [c1]
            rfl) (m := k) (by omega) (b0 := 1 + (min p.length 100000 + min s.length 100000) / 20) (by omega)
        have hloop : loopX k (F26r0L (callX tb k) k) [PV.int (d : Int), PV.int ((1 + (min p.length 100000 + min s.length 100000) / 20 : Nat) : Int), PV.int (l.length : Int), PV.int (0 : Int), Tm.enc (.mk kk p s n l)] = _ := hloop
        rw [hloop, bindA_some]
        simp only [i_int]
        have e5 : eqI 2 2 = true := by decide
        rw [needA_of e5, hd_cons, i_int, minI_eq, Tm.wts_fold]
        have e6 : ∀ x : Nat, min (100000 : Int) (x : Int) = ((min x 100000 : Nat) : Int) := fun x => by omega
        rw [e6]
theorem few_does (t : Tm) : Does tb 7 [.pv 24 t.enc] (.bool (decide (Tm.wt t 0 ≤ 600))) := by
  refine Does.step rfl ((weight_does t 0 (by omega)).ev.mono fun k hk => ?_)
  refine (F7_body (callX tb k) k t.enc).trans ?_
  unfold F7
  simp only [i_int]
  have hk : callX tb k 26 [.pv 24 t.enc, .int .i64 0] [] = some (.int (Tm.wt t 0 : Nat), []) := hk
  rw [hk, bindA_some, i_int, leI_eq]
  have : decide (((Tm.wt t 0 : Nat) : Int) ≤ 600) = decide (Tm.wt t 0 ≤ 600) := by
    by_cases h : Tm.wt t 0 ≤ 600
    · rw [decide_eq_true h, decide_eq_true (by omega)]
    · rw [decide_eq_false h, decide_eq_false (by omega)]
  rw [this]
theorem size_does (t : Tm) : Tm.nodes t < 1000000 → Does tb 16 [.pv 24 t.enc] (.int (Tm.nodes t : Nat)) := by
  induction t using Tm.ind with
  | h kk p s n l ih =>
    intro hn
    rw [Tm.nodes] at hn
    have hl : Ev fun k => ∀ t ∈ l, callX tb k 16 [.pv 24 t.enc] [] = some (.int (Tm.nodes t : Nat), []) :=
      Ev.list fun t ht => (ih t ht (by have := Tm.nodes_mem ht; omega)).ev
    refine Does.step rfl ((hl.and (Ev.ge (l.length + 1))).mono fun k hkm => ?_)
    obtain ⟨hk, hm⟩ := hkm
    refine (F16_body (callX tb k) k (Tm.enc (.mk kk p s n l))).trans ?_
    unfold F16
    have hln := Tm.len_nodes l
    have hloop := loopX_fold (round := F16r0L (callX tb k) k) l (fun i (a : Nat) => [PV.int (a : Int), PV.int (i : Int), Tm.enc (.mk kk p s n l)])
      (fun a t => a + Tm.nodes t) (.int 2) (fun a => [PV.int (a : Int), Tm.enc (.mk kk p s n l)]) (fun i a => a = 1 + Tm.nodesL (l.take i)) (by decide)
      (fun i t a ht ha => ⟨fun K => by
        have hi : i < l.length := (List.getElem?_eq_some_iff.1 ht).1
        have htl : l[i] = t := (List.getElem?_eq_some_iff.1 ht).2
        show F16r0 (callX tb k) k (.int (a : Int)) (.int (i : Int)) (Tm.enc (.mk kk p s n l)) K = _
        unfold F16r0
        simp only [i_int, ltI_eq, Tm.enc_l, l_node, Tm.l, lenP_map]
        have c1 : decide ((i : Int) < (l.length : Int)) = true := decide_eq_true (by omega)
        rw [c1]
        simp only [cond_true]
        rw [inP_map hi, needA_true, getP_map _ _ _ hi, htl, hk t (List.mem_of_getElem? ht), bindA_some]
        have b1 := Tm.nodesL_take l i
        have b2 := Tm.nodes_mem (List.mem_of_getElem? ht)
        simp only [i_int]
        rw [addW_i64 (by omega) (by omega), addW_i64 (by omega) (by omega)]
        rfl, by rw [ha, Tm.nodesL_succ ht]; omega⟩)
      (fun a ha K => by
        show F16r0 (callX tb k) k (.int (a : Int)) (.int (l.length : Int)) (Tm.enc (.mk kk p s n l)) K = _
        unfold F16r0
        simp only [i_int, ltI_eq, Tm.enc_l, l_node, Tm.l, lenP_map]
        have c1 : decide ((l.length : Int) < (l.length : Int)) = false := decide_eq_false (by omega)
        rw [c1]
        rfl) (m := k) (by omega) (b0 := 1) rfl
    have hloop : loopX k (F16r0L (callX tb k) k) [PV.int (1 : Int), PV.int (0 : Int), Tm.enc (.mk kk p s n l)] = _ := hloop
    rw [hloop, bindA_some]
    simp only [i_int]
    have e5 : eqI 2 2 = true := by decide
    rw [needA_of e5, hd_cons, i_int, Tm.nodes_fold, Tm.nodes]
end Go.Proofs.YtglgkhodminffaaGreatDoor.PV
