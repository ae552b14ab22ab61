/- TermVars as a plain law. -/
import Derived.Test.YtglgkhodminffaaGreatDoorPVarsBV
namespace Go.Proofs.YtglgkhodminffaaGreatDoor.PV
open Px Go Go.RowKit Go.Proofs
set_option linter.unusedVariables false
set_option linter.unusedSimpArgs false
set_option maxRecDepth 100000
theorem alive_does : Does tb 8 [] (.bool true) := ⟨1, fun k hk => by
  obtain ⟨j, rfl⟩ : ∃ j, k = j + 1 := ⟨k - 1, by omega⟩
  rfl⟩
theorem few_thin {t : Tm} (h : Tm.wt t 0 ≤ 600) : Tm.nodes t ≤ 600 ∧ Tm.Thin 600 t := by
  have := Tm.wt_nodes t 0 (by omega)
  exact ⟨by omega, Tm.thin_mono (by omega) t (Tm.thin_nodes t)⟩
theorem sub_nodes {names : List (List Nat)} {bys : List Tm} (t : Tm) : Tm.nodes (Tm.sub names bys t) ≤ Tm.nodes t * (1 + Tm.nodesL bys) := by
  induction t using Tm.ind with
  | h k p s n l ih =>
    have hB : 1 ≤ 1 + Tm.nodesL bys := by omega
    generalize hb : 1 + Tm.nodesL bys = B at ih hB
    have key : ∀ l : List Tm, (∀ t ∈ l, Tm.nodes (Tm.sub names bys t) ≤ Tm.nodes t * B) → Tm.nodesL (l.map (Tm.sub names bys)) ≤ Tm.nodesL l * B := by
      intro l
      induction l with
      | nil => intro _; simp [Tm.nodesL]
      | cons x l ihl =>
        intro hx
        have h1 := ihl fun t ht => hx t (List.mem_cons_of_mem _ ht)
        have h2 := hx x (List.mem_cons_self ..)
        simp only [List.map_cons, Tm.nodesL, Nat.add_mul]
        omega
    have hk := key l ih
    have hrest : Tm.nodes (.mk k p s n (l.map (Tm.sub names bys))) ≤ Tm.nodes (.mk k p s n l) * B := by
      simp only [Tm.nodes, Nat.add_mul, Nat.one_mul]; omega
    cases e : (if k = 1 then Tm.put names bys s else none : Option Tm) with
    | none => rw [sub_at_none e]; exact hrest
    | some b =>
      rw [sub_at_some e]
      have hm : b ∈ bys := by
        by_cases hk1 : k = 1
        · rw [if_pos hk1] at e; exact Tm.put_mem e
        · rw [if_neg hk1] at e; cases e
      have h1 := Tm.nodes_mem hm
      have h2 : B ≤ Tm.nodes (.mk k p s n l) * B := Nat.le_mul_of_pos_left B (Tm.nodes_pos _)
      omega
theorem has_sub {names : List (List Nat)} {bys : List Tm} {x : List Nat} (t : Tm) : Tm.Has x (Tm.sub names bys t) → Tm.Has x t ∨ ∃ b ∈ bys, Tm.Has x b := by
  induction t using Tm.ind with
  | h k p s n l ih =>
    intro h
    cases e : (if k = 1 then Tm.put names bys s else none : Option Tm) with
    | none =>
      rw [sub_at_none e, Tm.has_mk] at h
      rcases h with h | ⟨u, hu, h⟩
      · exact .inl (Tm.has_mk.2 (.inl h))
      · obtain ⟨v, hv, rfl⟩ := List.mem_map.1 hu
        rcases ih v hv h with h | h
        · exact .inl (Tm.has_mk.2 (.inr ⟨v, hv, h⟩))
        · exact .inr h
    | some b =>
      rw [sub_at_some e] at h
      have hm : b ∈ bys := by
        by_cases hk1 : k = 1
        · rw [if_pos hk1] at e; exact Tm.put_mem e
        · rw [if_neg hk1] at e; cases e
      exact .inr ⟨b, hm, h⟩
theorem mem_varsL {x : List Nat} : ∀ (l : List Tm) (out : List (List Nat)), x ∈ Tm.varsL out l ↔ x ∈ out ∨ ∃ t ∈ l, Tm.Has x t
  | [], out => by rw [Tm.varsL]; simp
  | t :: l, out => by rw [Tm.varsL, mem_varsL l, Tm.mem_vars]; simp [or_assoc]
theorem sub_no_names {bys : List Tm} (t : Tm) : Tm.sub [] bys t = t := Tm.sub_none t fun x hx => by cases hx
theorem mem_nodesL {t : Tm} {l : List Tm} (h : t ∈ l) : Tm.nodes t ≤ Tm.nodesL l := Tm.nodes_mem h
theorem vars_true (l : List Tm) (t : Tm) (names : List (List Nat)) (hl : l.length < 9223372036854775808) (hnm : names.length < 9223372036854775808) : Does tb 5 [.pv 22 (.node (l.map Tm.enc)), .pv 24 t.enc, .pv 29 (.node (names.map PV.str))] (.bool true) := by
  have ha := alive_does.ev
  have hfa := (fewAll_does l hl).ev
  have hft := (few_does t).ev
  have body := fun k => F5_body (callX tb k) k (.node (l.map Tm.enc)) t.enc (.node (names.map PV.str))
  by_cases hA : fewA l 0 ≤ 600
  · rw [decide_eq_true hA] at hfa
    have hN := fewA_nodes l 0 hA
    have hln := Tm.len_nodes l
    by_cases ht : Tm.wt t 0 ≤ 600
    · rw [decide_eq_true ht] at hft
      obtain ⟨nt, tt⟩ := few_thin ht
      by_cases hn20 : 20 < names.length
      · refine Does.step rfl ((ha.and (hfa.and hft)).mono fun k hk => ?_)
        obtain ⟨k1, k2, k3⟩ := hk
        refine (body k).trans ?_
        unfold F5
        rw [k2, bindA_some, k3]
        simp only [b_bool, notB_true, cond_false, bindA_some, l_node, lenP_map]
        rw [ltI_t (show (20 : Int) < (names.length : Int) by omega), k1]
        rfl
      · -- the variables of all
        have hvs : Ev fun k => ∀ i, i < l.length → callX tb k 20 [.pv 29 (.node ((Tm.varsL [] (l.take i)).map PV.str)), .pv 24 (l.getD i (.mk 0 [] [] 0 [])).enc] [] = some (.node ((Tm.vars (Tm.varsL [] (l.take i)) (l.getD i (.mk 0 [] [] 0 []))).map PV.str), []) := by
          refine Ev.all (P := fun i k => callX tb k 20 [.pv 29 (.node ((Tm.varsL [] (l.take i)).map PV.str)), .pv 24 (l.getD i (.mk 0 [] [] 0 [])).enc] [] = some (.node ((Tm.vars (Tm.varsL [] (l.take i)) (l.getD i (.mk 0 [] [] 0 []))).map PV.str), [])) l.length id fun i hi => ?_
          have e : l.getD i (.mk 0 [] [] 0 []) = l[i] := by simp [List.getD, hi]
          have h1 := Tm.varsL_len (l.take i) []
          have h2 := Tm.nodesL_succ (List.getElem?_eq_getElem hi)
          have h3 := Tm.nodesL_take l (i + 1)
          simp only [id]
          rw [e]
          exact (vars_does l[i] (Tm.varsL [] (l.take i)) (by simp at h1; omega)).ev
        have loop0 : Ev fun k => loopX k (F5r0L (callX tb k) k) [PV.node (l.map Tm.enc), PV.node (names.map PV.str), PV.node [], PV.node (l.map Tm.enc), PV.int (l.length : Int), PV.int (0 : Int), t.enc] = some (.int 2, [PV.node (l.map Tm.enc), PV.node (names.map PV.str), PV.node ((Tm.varsL [] l).map PV.str), t.enc]) := by
          refine (hvs.and (Ev.ge (l.length + 1))).mono fun k hkm => ?_
          obtain ⟨hk, hm⟩ := hkm
          have hloop := loopX_fold (round := F5r0L (callX tb k) k) l (fun i (a : List (List Nat)) => [PV.node (l.map Tm.enc), PV.node (names.map PV.str), PV.node (a.map PV.str), PV.node (l.map Tm.enc), PV.int (l.length : Int), PV.int (i : Int), t.enc])
            Tm.vars (.int 2) (fun a => [PV.node (l.map Tm.enc), PV.node (names.map PV.str), PV.node (a.map PV.str), t.enc]) (fun i a => a = Tm.varsL [] (l.take i)) rfl
            (fun i u a hu ha => ⟨fun K => by
              have hi : i < l.length := (List.getElem?_eq_some_iff.1 hu).1
              have htl : l[i] = u := (List.getElem?_eq_some_iff.1 hu).2
              show F5r0 (callX tb k) k (.node (l.map Tm.enc)) (.node (names.map PV.str)) (.node (a.map PV.str)) (.node (l.map Tm.enc)) (.int (l.length : Int)) (.int (i : Int)) t.enc K = _
              unfold F5r0
              simp only [i_int, l_node]
              rw [ltI_t (show (i : Int) < (l.length : Int) by omega)]
              simp only [cond_true]
              have hk := hk i hi
              rw [show l.getD i (.mk 0 [] [] 0 []) = u by simp [List.getD, hu], ← ha] at hk
              rw [inP_map hi, needA_true, getP_map _ _ _ hi, htl, hk, bindA_some, addW_i64 (by omega) (by omega)]
              rfl, by rw [ha, Tm.varsL_succ hu]⟩)
            (fun a ha K => by
              show F5r0 (callX tb k) k (.node (l.map Tm.enc)) (.node (names.map PV.str)) (.node (a.map PV.str)) (.node (l.map Tm.enc)) (.int (l.length : Int)) (.int (l.length : Int)) t.enc K = _
              unfold F5r0
              simp only [i_int, l_node]
              rw [ltI_f (show ¬ (l.length : Int) < (l.length : Int) by omega)]
              rfl) (m := k) (by omega) (b0 := []) (by rw [List.take_zero, Tm.varsL])
          rw [Tm.varsL_fold]
          exact hloop
        have hvl := Tm.varsL_len l []
        simp only [List.length_nil] at hvl
        have htv := (tvars_does l (by omega)).ev
        have htx := (texts_refl (Tm.varsL [] l) (by omega)).ev
        have hsz := (size_does t (by omega)).ev
        -- as far as the term's size
        by_cases hbig : (60 < Tm.nodes t ∧ 0 < l.length) ∨ 20 < l.length
        · refine Does.step rfl ((ha.and (hfa.and (hft.and (loop0.and (htv.and (htx.and hsz)))))).mono fun k hk => ?_)
          obtain ⟨k1, k2, k3, k4, k5, k6, k7⟩ := hk
          refine (body k).trans ?_
          unfold F5
          rw [k2, bindA_some, k3]
          simp only [b_bool, notB_true, cond_false, bindA_some, l_node, lenP_map]
          rw [ltI_f (show ¬ (20 : Int) < (names.length : Int) by omega), k4]
          simp only [cond_false, bindA_some, i_int, hd_cons, tl_cons, l_node, lenP_map]
          rw [show eqI 2 2 = true by decide, needA_true, k5, bindA_some, k6, bindA_some]
          simp only [b_bool, notB_true, cond_false]
          rw [k7]
          simp only [bindA_some, i_int, k1, b_bool]
          by_cases h60 : 60 < Tm.nodes t
          · rw [ltI_t (show (60 : Int) < (Tm.nodes t : Int) by omega)]
            simp only [cond_true]
            by_cases h0 : 0 < l.length
            · rw [ltI_t (show (0 : Int) < (l.length : Int) by omega)]; rfl
            · exfalso; rcases hbig with h | h <;> omega
          · rw [ltI_f (show ¬ (60 : Int) < (Tm.nodes t : Int) by omega)]
            simp only [cond_false]
            have h20 : 20 < l.length := by rcases hbig with h | h <;> omega
            rw [ltI_t (show (20 : Int) < (l.length : Int) by omega)]; rfl
        · have hs60 : Tm.nodes t ≤ 60 ∨ l.length = 0 := by omega
          have h20 : ¬ 20 < l.length := fun h => hbig (.inr h)
          have T1 : Tm.Thin 100000 t := Tm.thin_mono (by omega) t tt
          have L1 : ∀ u ∈ l, Tm.Thin 100000 u := fun u hu => Tm.thin_mono (by have := Tm.nodes_mem hu; omega) u (Tm.thin_nodes u)
          have S1 : Tm.Thin 1000000 (Tm.sub names l t) := Tm.thin_mono (by omega) _ (Tm.sub_thin L1 t T1)
          have nS : Tm.nodes (Tm.sub names l t) < 400000 := by
            have h := sub_nodes (names := names) (bys := l) t
            rcases hs60 with h6 | h6
            · have : Tm.nodes t * (1 + Tm.nodesL l) ≤ 60 * 601 := Nat.mul_le_mul h6 (by omega)
              omega
            · have e0 : Tm.nodesL l = 0 := by
                have : l = [] := List.length_eq_zero_iff.1 h6
                subst this; rfl
              rw [e0] at h; omega
          have h1 := (subst_does names l hnm t T1).ev
          have h2 := (rsubst_does names l hnm t T1).ev
          have h3 := (same_refl _ S1).ev
          have h4 := (vars_does t [] (by simp; omega)).ev
          have h5 := (tvars_does [Tm.sub names l t] (by simp [Tm.nodesL]; omega)).ev
          have h6 := (subst_does [] l (by simp) t T1).ev
          rw [sub_no_names] at h6
          have h7 := (same_refl t (Tm.thin_mono (by omega) t tt)).ev
          have e5 : Tm.varsL [] [Tm.sub names l t] = Tm.vars [] (Tm.sub names l t) := by rw [Tm.varsL, Tm.varsL]
          rw [e5] at h5
          have hlen5 := Tm.vars_len (Tm.sub names l t) []
          have hlen4 := Tm.vars_len t []
          simp only [List.length_nil] at hlen5 hlen4
          have hin : Ev fun k => ∀ v ∈ Tm.vars [] (Tm.sub names l t), callX tb k 25 [.str v, .pv 29 (.node ((Tm.vars [] t).map PV.str))] [] = some (.bool (decide (v ∈ Tm.vars [] t)), []) ∧ callX tb k 25 [.str v, .pv 29 (.node ((Tm.varsL [] l).map PV.str))] [] = some (.bool (decide (v ∈ Tm.varsL [] l)), []) :=
            Ev.list fun v hv => (in_does v (Tm.vars [] t) (by omega)).ev.and (in_does v (Tm.varsL [] l) (by omega)).ev
          generalize hvsd : Tm.vars [] (Tm.sub names l t) = vs at *
          have hmem : ∀ v ∈ vs, v ∈ Tm.vars [] t ∨ v ∈ Tm.varsL [] l := by
            intro v hv
            rw [← hvsd, Tm.mem_vars] at hv
            rcases hv with hv | hv
            · cases hv
            · rcases has_sub t hv with h | h
              · exact .inl ((Tm.mem_vars t []).2 (.inr h))
              · exact .inr ((mem_varsL l []).2 (.inr h))
          have loop1 : Ev fun k => loopX k (F5r1L (callX tb k) k) [PV.node (l.map Tm.enc), PV.node ((Tm.varsL [] l).map PV.str), PV.node ((Tm.vars [] t).map PV.str), PV.node (vs.map PV.str), PV.int (vs.length : Int), PV.int (0 : Int), t.enc] = some (.int 4, [PV.node (l.map Tm.enc), t.enc]) := by
            refine (hin.and (Ev.ge (vs.length + 1))).mono fun k hkm => ?_
            obtain ⟨hk, hm⟩ := hkm
            exact loopX_fold (round := F5r1L (callX tb k) k) vs (fun i (_ : Unit) => [PV.node (l.map Tm.enc), PV.node ((Tm.varsL [] l).map PV.str), PV.node ((Tm.vars [] t).map PV.str), PV.node (vs.map PV.str), PV.int (vs.length : Int), PV.int (i : Int), t.enc])
              (fun _ _ => ()) (.int 4) (fun _ => [PV.node (l.map Tm.enc), t.enc]) (fun _ _ => True) rfl
              (fun i v _ hv _ => ⟨fun K => by
                have hi : i < vs.length := (List.getElem?_eq_some_iff.1 hv).1
                have htl : vs[i] = v := (List.getElem?_eq_some_iff.1 hv).2
                show F5r1 (callX tb k) k (.node (l.map Tm.enc)) (.node ((Tm.varsL [] l).map PV.str)) (.node ((Tm.vars [] t).map PV.str)) (.node (vs.map PV.str)) (.int (vs.length : Int)) (.int (i : Int)) t.enc K = _
                unfold F5r1
                obtain ⟨g1, g2⟩ := hk v (List.mem_of_getElem? hv)
                simp only [i_int, l_node]
                rw [ltI_t (show (i : Int) < (vs.length : Int) by omega)]
                simp only [cond_true]
                rw [inP_map hi, needA_true, getP_map _ _ _ hi, htl]
                simp only [s_str]
                rw [g1, g2]
                simp only [bindA_some, b_bool]
                rw [addW_i64 (by omega) (by omega)]
                rcases hmem v (List.mem_of_getElem? hv) with h | h
                · rw [decide_eq_true h]; rfl
                · rw [decide_eq_true h]
                  cases decide (v ∈ Tm.vars [] t) <;> rfl, trivial⟩)
              (fun _ _ K => by
                show F5r1 (callX tb k) k (.node (l.map Tm.enc)) (.node ((Tm.varsL [] l).map PV.str)) (.node ((Tm.vars [] t).map PV.str)) (.node (vs.map PV.str)) (.int (vs.length : Int)) (.int (vs.length : Int)) t.enc K = _
                unfold F5r1
                simp only [i_int, l_node]
                rw [ltI_f (show ¬ (vs.length : Int) < (vs.length : Int) by omega)]
                rfl) (m := k) (by omega) (b0 := ()) trivial
          refine Does.step rfl ((ha.and (hfa.and (hft.and (loop0.and (htv.and (htx.and (hsz.and (h1.and (h2.and (h3.and (h4.and (h5.and (loop1.and (h6.and h7)))))))))))))).mono fun k hk => ?_)
          obtain ⟨k1, k2, k3, k4, k5, k6, k7, k8, k9, k10, k11, k12, k13, k14, k15⟩ := hk
          have k11 : callX tb k 20 [.pv 29 (.node []), .pv 24 t.enc] [] = _ := k11
          have k12 : callX tb k 22 [.pv 22 (.node [(Tm.sub names l t).enc])] [] = _ := k12
          have k14 : callX tb k 23 [.pv 24 t.enc, .pv 29 (.node []), .pv 22 (.node (l.map Tm.enc))] [] = _ := k14
          refine (body k).trans ?_
          unfold F5
          rw [k2, bindA_some, k3]
          simp only [b_bool, notB_true, cond_false, bindA_some, l_node, lenP_map]
          rw [ltI_f (show ¬ (20 : Int) < (names.length : Int) by omega), k4]
          simp only [cond_false, bindA_some, i_int, hd_cons, tl_cons, l_node, lenP_map]
          rw [show eqI 2 2 = true by decide, needA_true, k5, bindA_some, k6, bindA_some]
          simp only [b_bool, notB_true, cond_false]
          rw [k7]
          simp only [bindA_some, i_int, k1, b_bool]
          have c20 : ltI (20 : Int) (l.length : Int) = false := ltI_f (by omega)
          have tail : ltI (60 : Int) (Tm.nodes t : Int) = true → ltI (0 : Int) (l.length : Int) = false := fun h => by
            have h : (60 : Int) < (Tm.nodes t : Int) := of_decide_eq_true h
            exact ltI_f (by omega)
          cases c60 : ltI (60 : Int) (Tm.nodes t : Int) with
          | true =>
            rw [tail c60, c20]
            simp only [cond_true, cond_false]
            rw [k8, bindA_some, k9, bindA_some, k10, bindA_some]
            simp only [b_bool, notB_true, cond_false]
            rw [k11, bindA_some, k12, bindA_some]
            simp only [l_node, lenP_map]
            rw [k13, bindA_some]
            simp only [i_int, hd_cons, tl_cons]
            rw [show eqI 4 4 = true by decide]
            simp only [cond_true]
            rw [k14, bindA_some, k15, bindA_some]
            rfl
          | false =>
            rw [c20]
            simp only [cond_true, cond_false]
            rw [k8, bindA_some, k9, bindA_some, k10, bindA_some]
            simp only [b_bool, notB_true, cond_false]
            rw [k11, bindA_some, k12, bindA_some]
            simp only [l_node, lenP_map]
            rw [k13, bindA_some]
            simp only [i_int, hd_cons, tl_cons]
            rw [show eqI 4 4 = true by decide]
            simp only [cond_true]
            rw [k14, bindA_some, k15, bindA_some]
            rfl
    · rw [decide_eq_false ht] at hft
      refine Does.step rfl ((ha.and (hfa.and hft)).mono fun k hk => ?_)
      obtain ⟨k1, k2, k3⟩ := hk
      refine (body k).trans ?_
      unfold F5
      rw [k2, bindA_some, k3]
      simp only [b_bool, notB_true, notB_false, cond_false, cond_true, bindA_some]
      rw [k1]
      rfl
  · rw [decide_eq_false hA] at hfa
    refine Does.step rfl ((ha.and hfa).mono fun k hk => ?_)
    obtain ⟨k1, k2⟩ := hk
    refine (body k).trans ?_
    unfold F5
    rw [k2]
    simp only [b_bool, notB_false, cond_true, bindA_some]
    rw [k1]
    rfl
end Go.Proofs.YtglgkhodminffaaGreatDoor.PV
