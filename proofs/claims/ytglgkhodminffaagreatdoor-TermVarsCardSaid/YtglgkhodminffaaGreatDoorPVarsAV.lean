/- What FewAll, Texts, Contains, term.Vars and the reference's Subst answer, for every term. -/
import Derived.Test.YtglgkhodminffaaGreatDoorPTermCV
namespace Go.Proofs.YtglgkhodminffaaGreatDoor.PV
open Px Go Go.RowKit Go.Proofs
set_option linter.unusedVariables false
set_option linter.unusedSimpArgs false
set_option maxRecDepth 100000
def fewA : List Tm → Nat → Nat
  | [], a => a
  | t :: l, a => if a ≤ 600 then fewA l (a + Tm.wt t 0) else a
theorem fewA_ge : ∀ (l : List Tm) (a : Nat), a ≤ fewA l a
  | [], a => Nat.le_refl _
  | t :: l, a => by
    rw [fewA]
    split
    · exact Nat.le_trans (Nat.le_add_right _ _) (fewA_ge l _)
    · exact Nat.le_refl _
theorem fewA_nodes : ∀ (l : List Tm) (a : Nat), fewA l a ≤ 600 → a + Tm.nodesL l ≤ fewA l a
  | [], a, h => by simp [Tm.nodesL, fewA]
  | t :: l, a, h => by
    rw [fewA] at h ⊢
    by_cases ha : a ≤ 600
    · rw [if_pos ha] at h ⊢
      have h1 := fewA_nodes l _ h
      have h2 := fewA_ge l (a + Tm.wt t 0)
      have h3 := Tm.wt_nodes t 0 (by omega)
      simp only [Tm.nodesL]; omega
    · rw [if_neg ha] at h; omega
def fewStep (_ : Nat) (t : Tm) (a : Nat) : Nat ⊕ (PV × List PV) := if a ≤ 600 then .inl (a + Tm.wt t 0) else .inr (.int 2, [PV.int (a : Int)])
def fewEnd (a : Nat) : PV × List PV := (.int 2, [PV.int (a : Int)])
theorem fewEnd_run : ∀ (l : List Tm) (i a : Nat), endL fewEnd (runL fewStep i l a) = (.int 2, [PV.int ((fewA l a : Nat) : Int)])
  | [], i, a => rfl
  | t :: l, i, a => by
    rw [fewA, runL]
    unfold fewStep
    by_cases h : a ≤ 600
    · simp only [if_pos h]
      exact fewEnd_run l (i + 1) (a + Tm.wt t 0)
    · simp only [if_neg h]
      rfl
theorem fewAll_does (l : List Tm) (hl : l.length < 9223372036854775808) : Does tb 19 [.pv 22 (.node (l.map Tm.enc))] (.bool (decide (fewA l 0 ≤ 600))) := by
  have hk : Ev fun k => ∀ t ∈ l, callX tb k 26 [.pv 24 t.enc, .int .i64 0] [] = some (.int (Tm.wt t 0 : Nat), []) := Ev.list fun t ht => (weight_does t 0 (by omega)).ev
  refine Does.step rfl ((hk.and (Ev.ge (l.length + 1))).mono fun k hkm => ?_)
  obtain ⟨hk, hm⟩ := hkm
  refine (F19_body (callX tb k) k (.node (l.map Tm.enc))).trans ?_
  unfold F19
  have hloop := loopX_list (round := F19r0L (callX tb k) k) l (fun i (a : Nat) => [PV.node (l.map Tm.enc), PV.int (a : Int), PV.int (i : Int)])
    fewStep fewEnd (fun i a => a < 200000)
    (fun i t a ht ha => by
      have hi : i < l.length := (List.getElem?_eq_some_iff.1 ht).1
      have htl : l[i] = t := (List.getElem?_eq_some_iff.1 ht).2
      unfold fewStep
      by_cases h : a ≤ 600
      · rw [if_pos h]
        refine ⟨fun K => ?_, ?_⟩
        · show F19r0 (callX tb k) k (.node (l.map Tm.enc)) (.int (a : Int)) (.int (i : Int)) K = _
          unfold F19r0
          simp only [i_int, l_node, lenP_map]
          have w := Tm.wt_le t 0
          rw [ltI_t (show (i : Int) < (l.length : Int) by omega), leI_t (show (a : Int) ≤ 600 by omega)]
          simp only [cond_true]
          rw [inP_map hi, needA_true, getP_map _ _ _ hi, htl, hk t (List.mem_of_getElem? ht), bindA_some]
          simp only [i_int]
          rw [addW_i64 (by omega) (by omega), addW_i64 (by omega) (by omega)]
          rfl
        · have w := Tm.wt_le t 0
          show a + Tm.wt t 0 < 200000
          omega
      · rw [if_neg h]
        refine ⟨fun K => ?_, rfl⟩
        show F19r0 (callX tb k) k (.node (l.map Tm.enc)) (.int (a : Int)) (.int (i : Int)) K = _
        unfold F19r0
        simp only [i_int, l_node, lenP_map]
        rw [ltI_t (show (i : Int) < (l.length : Int) by omega), leI_f (show ¬ (a : Int) ≤ 600 by omega)]
        rfl)
    (fun a ha => ⟨fun K => by
      show F19r0 (callX tb k) k (.node (l.map Tm.enc)) (.int (a : Int)) (.int (l.length : Int)) K = _
      unfold F19r0
      simp only [i_int, l_node, lenP_map]
      rw [ltI_f (show ¬ (l.length : Int) < (l.length : Int) by omega)]
      rfl, rfl⟩) (m := k) (by omega) (b0 := 0) (by omega)
  rw [fewEnd_run] at hloop
  have hloop : loopX k (F19r0L (callX tb k) k) [PV.node (l.map Tm.enc), PV.int (0 : Int), PV.int (0 : Int)] = _ := hloop
  rw [hloop, bindA_some]
  simp only [i_int, hd_cons]
  rw [show eqI 2 2 = true by decide, needA_true]
  by_cases h : fewA l 0 ≤ 600
  · rw [decide_eq_true h, leI_t (by omega)]
  · rw [decide_eq_false h, leI_f (by omega)]
theorem texts_refl (l : List (List Nat)) (hl : l.length < 9223372036854775808) : Does tb 21 [.pv 29 (.node (l.map PV.str)), .pv 29 (.node (l.map PV.str))] (.bool true) := by
  refine Does.step rfl ((Ev.ge (l.length + 1)).mono fun k hm => ?_)
  refine (F21_body (callX tb k) k (.node (l.map PV.str)) (.node (l.map PV.str))).trans ?_
  unfold F21
  have hloop := loopX_fold (round := F21r0L (callX tb k) k) l (fun i (_ : Unit) => [PV.node (l.map PV.str), PV.node (l.map PV.str), PV.bool false, PV.int (i : Int)])
    (fun _ _ => ()) (.int 2) (fun _ => []) (fun _ _ => True) rfl
    (fun i x _ ht _ => ⟨fun K => by
      have hi : i < l.length := (List.getElem?_eq_some_iff.1 ht).1
      show F21r0 (callX tb k) k (.node (l.map PV.str)) (.node (l.map PV.str)) (.bool false) (.int (i : Int)) K = _
      unfold F21r0
      simp only [i_int, l_node, lenP_map, b_bool]
      rw [ltI_t (show (i : Int) < (l.length : Int) by omega)]
      simp only [cond_true]
      rw [inP_map hi, needA_true, needA_true, eqS_t rfl, notB_true, cond_false, addW_i64 (by omega) (by omega)]
      rfl, trivial⟩)
    (fun _ _ K => by
      show F21r0 (callX tb k) k (.node (l.map PV.str)) (.node (l.map PV.str)) (.bool false) (.int (l.length : Int)) K = _
      unfold F21r0
      simp only [i_int, l_node, lenP_map]
      rw [ltI_f (show ¬ (l.length : Int) < (l.length : Int) by omega)]
      rfl) (m := k) (by omega) (b0 := ()) trivial
  have hloop : loopX k (F21r0L (callX tb k) k) [PV.node (l.map PV.str), PV.node (l.map PV.str), PV.bool false, PV.int (0 : Int)] = _ := hloop
  rw [eqI_t rfl, notB_true, cond_false, hloop, bindA_some]
  rfl
theorem contains_does (l : List (List Nat)) (s : List Nat) (hl : l.length < 9223372036854775808) : Does tb 50 [.pv 29 (.node (l.map PV.str)), .str s] (.bool (decide (s ∈ l))) := by
  refine Does.step rfl ((index_does l s hl).ev.mono fun k hk => ?_)
  refine (F50_body (callX tb k) k (.node (l.map PV.str)) (.str s)).trans ?_
  unfold F50
  simp only [s_str]
  rw [hk, bindA_some, i_int]
  unfold placeI
  cases e : l.findIdx? (fun x => decide (x = s)) with
  | none =>
    have : ¬ s ∈ l := fun hs => by
      have := List.findIdx?_eq_none_iff.1 e s hs
      simp at this
    rw [decide_eq_false this]; rfl
  | some i =>
    have : s ∈ l := by
      obtain ⟨h1, h2, _⟩ := List.findIdx?_eq_some_iff_getElem.1 e
      have h2 := of_decide_eq_true h2
      rw [← h2]; exact List.getElem_mem h1
    rw [decide_eq_true this, leI_t (show (0 : Int) ≤ (i : Int) by omega)]
def memV (q : List PV) : List AObj := [AObj.box 29 (.vs 2 0 29 q), AObj.box 48 (.func (Go.Fn.func 49) [] [(AV.ptr (some (0, 0))), (AV.ptr (some (1, 0)))]), AObj.vec 29 0]
theorem walk_does (t : Tm) : ∀ out : List (List Nat), out.length + Tm.nodes t < 900000 → DoesM tb 49 [.pv 24 t.enc, .ptr (some (0, 0)), .ptr (some (1, 0))] (memV (out.map PV.str)) (.node []) [.node ((Tm.vars out t).map PV.str)] := by
  induction t using Tm.ind with
  | h kk p s n l ih =>
    intro out hn
    rw [Tm.nodes] at hn
    have hln := Tm.len_nodes l
    have loop : ∀ out : List (List Nat), out.length + Tm.nodesL l < 900000 → Ev fun k => loopX k (F49r0L (callX tb k) k) [PV.node (l.map Tm.enc), PV.int (l.length : Int), PV.int (0 : Int), PV.node (out.map PV.str)] = some (.int 2, [PV.node ((Tm.varsL out l).map PV.str)]) := by
      intro out ho
      have hl : Ev fun k => ∀ i, i < l.length → callX tb k 49 [.pv 24 (l.getD i (.mk 0 [] [] 0 [])).enc, .ptr (some (0, 0)), .ptr (some (1, 0))] (memV ((Tm.varsL out (l.take i)).map PV.str)) = some (.node [], [.node ((Tm.vars (Tm.varsL out (l.take i)) (l.getD i (.mk 0 [] [] 0 []))).map PV.str)]) := by
        refine Ev.all (P := fun i k => callX tb k 49 [.pv 24 (l.getD i (.mk 0 [] [] 0 [])).enc, .ptr (some (0, 0)), .ptr (some (1, 0))] (memV ((Tm.varsL out (l.take i)).map PV.str)) = some (.node [], [.node ((Tm.vars (Tm.varsL out (l.take i)) (l.getD i (.mk 0 [] [] 0 []))).map PV.str)])) l.length id fun i hi => ?_
        have e : l.getD i (.mk 0 [] [] 0 []) = l[i] := by simp [List.getD, hi]
        have h1 := Tm.varsL_len (l.take i) out
        have h2 := Tm.nodesL_succ (List.getElem?_eq_getElem hi)
        have h3 := Tm.nodesL_take l (i + 1)
        simp only [id]
        rw [e]
        exact ih l[i] (List.getElem_mem hi) (Tm.varsL out (l.take i)) (by omega)
      refine (hl.and (Ev.ge (l.length + 1))).mono fun k hkm => ?_
      obtain ⟨hk, hm⟩ := hkm
      have hloop := loopX_fold (round := F49r0L (callX tb k) k) l (fun i (a : List (List Nat)) => [PV.node (l.map Tm.enc), PV.int (l.length : Int), PV.int (i : Int), PV.node (a.map PV.str)])
        Tm.vars (.int 2) (fun a => [PV.node (a.map PV.str)]) (fun i a => a = Tm.varsL out (l.take i)) rfl
        (fun i t a ht ha => ⟨fun K => by
          have hi : i < l.length := (List.getElem?_eq_some_iff.1 ht).1
          have htl : l[i] = t := (List.getElem?_eq_some_iff.1 ht).2
          show F49r0 (callX tb k) k (.node (l.map Tm.enc)) (.int (l.length : Int)) (.int (i : Int)) (.node (a.map PV.str)) K = _
          unfold F49r0
          simp only [i_int, l_node]
          rw [ltI_t (show (i : Int) < (l.length : Int) by omega)]
          simp only [cond_true]
          have hk := hk i hi
          rw [show l.getD i (.mk 0 [] [] 0 []) = t by simp [List.getD, ht], ← ha] at hk
          unfold memV at hk
          rw [inP_map hi, needA_true, getP_map _ _ _ hi, htl, hk, bindA_some, addW_i64 (by omega) (by omega)]
          rfl, by rw [ha, Tm.varsL_succ ht]⟩)
        (fun a ha K => by
          show F49r0 (callX tb k) k (.node (l.map Tm.enc)) (.int (l.length : Int)) (.int (l.length : Int)) (.node (a.map PV.str)) K = _
          unfold F49r0
          simp only [i_int, l_node]
          rw [ltI_f (show ¬ (l.length : Int) < (l.length : Int) by omega)]
          rfl) (m := k) (by omega) (b0 := out) (by rw [List.take_zero, Tm.varsL])
      rw [Tm.varsL_fold]
      exact hloop
    by_cases hk1 : kk = 1
    · subst hk1
      by_cases hs : s ∈ out
      · refine DoesM.step rfl (((contains_does out s (by omega)).ev.and (loop out (by omega))).mono fun k hk => ?_)
        obtain ⟨h1, h2⟩ := hk
        refine (F49_body (callX tb k) k (Tm.enc (.mk 1 p s n l)) (out.map PV.str)).trans ?_
        unfold F49
        simp only [Tm.enc_k, Tm.enc_s, Tm.enc_l, Tm.k, Tm.s, Tm.l, i_int, s_str, l_node, lenP_map]
        rw [show eqI 1 1 = true by decide, h1, bindA_some, h2, decide_eq_true hs]
        simp only [cond_true, b_bool, notB_true, cond_false, bindA_some, i_int]
        rw [show eqI 2 2 = true by decide, needA_true, hd_cons, l_node, Tm.vars, if_pos rfl, Tm.snoc, if_pos hs]
      · refine DoesM.step rfl (((contains_does out s (by omega)).ev.and (loop (out ++ [s]) (by simp; omega))).mono fun k hk => ?_)
        obtain ⟨h1, h2⟩ := hk
        refine (F49_body (callX tb k) k (Tm.enc (.mk 1 p s n l)) (out.map PV.str)).trans ?_
        unfold F49
        simp only [Tm.enc_k, Tm.enc_s, Tm.enc_l, Tm.k, Tm.s, Tm.l, i_int, s_str, l_node, lenP_map]
        rw [show eqI 1 1 = true by decide, h1, bindA_some, decide_eq_false hs]
        simp only [cond_true, b_bool, notB_false]
        have e1 : appP (out.map PV.str) [PV.str s] = (out ++ [s]).map PV.str := by simp [appP]
        rw [smallP_of (by simp; omega), needA_true, e1, h2, bindA_some]
        simp only [i_int]
        rw [show eqI 2 2 = true by decide, needA_true, hd_cons, l_node, Tm.vars, if_pos rfl, Tm.snoc, if_neg hs]
    · refine DoesM.step rfl ((loop out (by omega)).mono fun k h2 => ?_)
      refine (F49_body (callX tb k) k (Tm.enc (.mk kk p s n l)) (out.map PV.str)).trans ?_
      unfold F49
      simp only [Tm.enc_k, Tm.enc_s, Tm.enc_l, Tm.k, Tm.s, Tm.l, i_int, s_str, l_node, lenP_map]
      rw [eqI_f hk1, h2]
      simp only [cond_false, bindA_some, i_int]
      rw [show eqI 2 2 = true by decide, needA_true, hd_cons, l_node, Tm.vars, if_neg hk1]
theorem tvars_does (l : List Tm) (hn : Tm.nodesL l < 900000) : Does tb 22 [.pv 22 (.node (l.map Tm.enc))] (.node ((Tm.varsL [] l).map PV.str)) := by
  have hln := Tm.len_nodes l
  have hl : Ev fun k => ∀ i, i < l.length → callX tb k 49 [.pv 24 (l.getD i (.mk 0 [] [] 0 [])).enc, .ptr (some (0, 0)), .ptr (some (1, 0))] (memV ((Tm.varsL [] (l.take i)).map PV.str)) = some (.node [], [.node ((Tm.vars (Tm.varsL [] (l.take i)) (l.getD i (.mk 0 [] [] 0 []))).map PV.str)]) := by
    refine Ev.all (P := fun i k => callX tb k 49 [.pv 24 (l.getD i (.mk 0 [] [] 0 [])).enc, .ptr (some (0, 0)), .ptr (some (1, 0))] (memV ((Tm.varsL [] (l.take i)).map PV.str)) = some (.node [], [.node ((Tm.vars (Tm.varsL [] (l.take i)) (l.getD i (.mk 0 [] [] 0 []))).map PV.str)])) l.length id fun i hi => ?_
    have e : l.getD i (.mk 0 [] [] 0 []) = l[i] := by simp [List.getD, hi]
    have h1 := Tm.varsL_len (l.take i) []
    have h2 := Tm.nodesL_succ (List.getElem?_eq_getElem hi)
    have h3 := Tm.nodesL_take l (i + 1)
    simp only [id]
    rw [e]
    exact walk_does l[i] (Tm.varsL [] (l.take i)) (by simp at h1; omega)
  refine Does.step rfl ((hl.and (Ev.ge (l.length + 1))).mono fun k hkm => ?_)
  obtain ⟨hk, hm⟩ := hkm
  refine (F22_body (callX tb k) k (.node (l.map Tm.enc))).trans ?_
  unfold F22
  have hloop := loopX_fold (round := F22r0L (callX tb k) k) l (fun i (a : List (List Nat)) => [PV.node (l.map Tm.enc), PV.int (l.length : Int), PV.int (i : Int), PV.node (a.map PV.str)])
    Tm.vars (.int 2) (fun a => [PV.node (a.map PV.str)]) (fun i a => a = Tm.varsL [] (l.take i)) rfl
    (fun i t a ht ha => ⟨fun K => by
      have hi : i < l.length := (List.getElem?_eq_some_iff.1 ht).1
      have htl : l[i] = t := (List.getElem?_eq_some_iff.1 ht).2
      show F22r0 (callX tb k) k (.node (l.map Tm.enc)) (.int (l.length : Int)) (.int (i : Int)) (.node (a.map PV.str)) K = _
      unfold F22r0
      simp only [i_int, l_node]
      rw [ltI_t (show (i : Int) < (l.length : Int) by omega)]
      simp only [cond_true]
      have hk := hk i hi
      rw [show l.getD i (.mk 0 [] [] 0 []) = t by simp [List.getD, ht], ← ha] at hk
      unfold memV at hk
      rw [inP_map hi, needA_true, getP_map _ _ _ hi, htl, hk, bindA_some, addW_i64 (by omega) (by omega)]
      rfl, by rw [ha, Tm.varsL_succ ht]⟩)
    (fun a ha K => by
      show F22r0 (callX tb k) k (.node (l.map Tm.enc)) (.int (l.length : Int)) (.int (l.length : Int)) (.node (a.map PV.str)) K = _
      unfold F22r0
      simp only [i_int, l_node]
      rw [ltI_f (show ¬ (l.length : Int) < (l.length : Int) by omega)]
      rfl) (m := k) (by omega) (b0 := []) (by rw [List.take_zero, Tm.varsL])
  have hloop : loopX k (F22r0L (callX tb k) k) [PV.node (l.map Tm.enc), PV.int (l.length : Int), PV.int (0 : Int), PV.node []] = _ := hloop
  simp only [l_node, lenP_map]
  rw [hloop, bindA_some]
  simp only [i_int, hd_cons, l_node]
  rw [show eqI 2 2 = true by decide, needA_true, Tm.varsL_fold]
end Go.Proofs.YtglgkhodminffaaGreatDoor.PV
