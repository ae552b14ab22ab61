/- What the functions on terms answer, second part: Same, In, Index, Vars, Subst. -/
import Derived.Test.YtglgkhodminffaaGreatDoorPTermAV
namespace Go.Proofs.YtglgkhodminffaaGreatDoor.PV
open Px Go Go.RowKit Go.Proofs
set_option linter.unusedVariables false
set_option linter.unusedSimpArgs false
set_option maxRecDepth 100000
theorem dec_t {a b : Int} (h : a < b) : decide (a < b) = true := decide_eq_true h
theorem dec_f (a : Int) : decide (a < a) = false := decide_eq_false (by omega)
theorem same_refl (t : Tm) : Tm.Thin 1000000 t → Does tb 18 [.pv 24 t.enc, .pv 24 t.enc] (.bool true) := by
  induction t using Tm.ind with
  | h kk p s n l ih =>
    intro hn
    have hlen : l.length ≤ 1000000 := hn.len
    have hl : Ev fun k => ∀ t ∈ l, callX tb k 18 [.pv 24 t.enc, .pv 24 t.enc] [] = some (.bool true, []) :=
      Ev.list fun t ht => (ih t ht (hn.kid ht)).ev
    refine Does.step rfl ((hl.and (Ev.ge (l.length + 1))).mono fun k hkm => ?_)
    obtain ⟨hk, hm⟩ := hkm
    refine (F18_body (callX tb k) k (Tm.enc (.mk kk p s n l)) (Tm.enc (.mk kk p s n l))).trans ?_
    unfold F18
    have hloop := loopX_fold (round := F18r0L (callX tb k) k) l (fun i (_ : Unit) => [PV.bool false, PV.int (i : Int), Tm.enc (.mk kk p s n l), Tm.enc (.mk kk p s n l)])
      (fun _ _ => ()) (.int 2) (fun _ => [Tm.enc (.mk kk p s n l), Tm.enc (.mk kk p s n l)]) (fun _ _ => True) (by decide)
      (fun i t a ht _ => ⟨fun K => by
        have hi : i < l.length := (List.getElem?_eq_some_iff.1 ht).1
        have htl : l[i] = t := (List.getElem?_eq_some_iff.1 ht).2
        show F18r0 (callX tb k) k (.bool false) (.int (i : Int)) (Tm.enc (.mk kk p s n l)) (Tm.enc (.mk kk p s n l)) K = _
        unfold F18r0
        simp only [i_int, ltI_eq, Tm.enc_l, l_node, Tm.l, lenP_map, b_bool]
        rw [dec_t (show (i : Int) < (l.length : Int) by omega)]
        simp only [cond_true]
        rw [inP_map hi, needA_true, needA_true, getP_map _ _ _ hi, htl, hk t (List.mem_of_getElem? ht), bindA_some]
        simp only [b_bool, notB_true, cond_false]
        rw [addW_i64 (by omega) (by omega)]
        rfl, trivial⟩)
      (fun a _ K => by
        show F18r0 (callX tb k) k (.bool false) (.int (l.length : Int)) (Tm.enc (.mk kk p s n l)) (Tm.enc (.mk kk p s n l)) K = _
        unfold F18r0
        simp only [i_int, ltI_eq, Tm.enc_l, l_node, Tm.l, lenP_map]
        rw [dec_f]
        rfl) (m := k) (by omega) (b0 := ()) trivial
    have hloop : loopX k (F18r0L (callX tb k) k) [PV.bool false, PV.int (0 : Int), Tm.enc (.mk kk p s n l), Tm.enc (.mk kk p s n l)] = _ := hloop
    simp only [Tm.enc_k, Tm.enc_p, Tm.enc_s, Tm.enc_n, Tm.enc_l, i_int, s_str, l_node, eqI_iff, eqS_iff, decide_true, notB_true, cond_false]
    rw [hloop, bindA_some]
    rfl
theorem in6_does (s : List Nat) (l : List (List Nat)) (hl : l.length < 9223372036854775808) : Does tb 52 [.str s, .pv 29 (.node (l.map PV.str))] (.bool (decide (s ∈ l))) := by
  refine Does.step rfl ((Ev.ge (l.length + 1)).mono fun k hm => ?_)
  refine (F52_body (callX tb k) k (.str s) (.node (l.map PV.str))).trans ?_
  unfold F52
  have hloop := loopX_find (round := F52r0L (callX tb k) k) l (fun i => [PV.str s, PV.node (l.map PV.str), PV.bool false, PV.int (i : Int)]) (fun x => decide (x = s)) (fun _ => (.int 1, [PV.bool true])) (.int 2, []) (by decide) (fun _ => rfl)
    (fun i x ht K => by
      have hi : i < l.length := (List.getElem?_eq_some_iff.1 ht).1
      have htl : l[i] = x := (List.getElem?_eq_some_iff.1 ht).2
      show F52r0 (callX tb k) k (.str s) (.node (l.map PV.str)) (.bool false) (.int (i : Int)) K = _
      unfold F52r0
      simp only [i_int, ltI_eq, l_node, lenP_map, s_str, b_bool]
      rw [dec_t (show (i : Int) < (l.length : Int) by omega)]
      simp only [cond_true]
      rw [inP_map hi, needA_true, getP_map _ _ _ hi, htl, s_str, eqS_iff, addW_i64 (by omega) (by omega)]
      cases decide (x = s) <;> rfl)
    (fun K => by
      show F52r0 (callX tb k) k (.str s) (.node (l.map PV.str)) (.bool false) (.int (l.length : Int)) K = _
      unfold F52r0
      simp only [i_int, ltI_eq, l_node, lenP_map]
      rw [dec_f]
      rfl) (m := k) (by omega)
  have hloop : loopX k (F52r0L (callX tb k) k) [PV.str s, PV.node (l.map PV.str), PV.bool false, PV.int (0 : Int)] = _ := hloop
  simp only [s_str]
  rw [hloop]
  cases e : l.findIdx? (fun x => decide (x = s)) with
  | none =>
    have : ¬ s ∈ l := fun hs => by
      have := List.findIdx?_eq_none_iff.1 e s hs
      simp at this
    rw [decide_eq_false this]; rfl
  | some i =>
    have : s ∈ l := by
      obtain ⟨h1, h2, _⟩ := List.findIdx?_eq_some_iff_getElem.1 e
      have h2 := of_decide_eq_true h2
      rw [← h2]; exact List.getElem_mem h1
    rw [decide_eq_true this]; rfl
theorem in_does (s : List Nat) (l : List (List Nat)) (hl : l.length < 9223372036854775808) : Does tb 25 [.str s, .pv 29 (.node (l.map PV.str))] (.bool (decide (s ∈ l))) := by
  refine Does.step rfl ((in6_does s l hl).ev.mono fun k hk => ?_)
  refine (F25_body (callX tb k) k (.str s) (.node (l.map PV.str))).trans ?_
  unfold F25
  simp only [s_str]
  rw [hk, bindA_some, b_bool]
def placeI (l : List (List Nat)) (s : List Nat) : Int := match l.findIdx? (fun x => decide (x = s)) with
  | some i => (i : Int)
  | none => -1
theorem index_does (l : List (List Nat)) (s : List Nat) (hl : l.length < 9223372036854775808) : Does tb 51 [.pv 29 (.node (l.map PV.str)), .str s] (.int (placeI l s)) := by
  refine Does.step rfl ((Ev.ge (l.length + 1)).mono fun k hm => ?_)
  refine (F51_body (callX tb k) k (.node (l.map PV.str)) (.str s)).trans ?_
  unfold F51
  have hloop := loopX_find (round := F51r0L (callX tb k) k) l (fun i => [PV.node (l.map PV.str), PV.str s, PV.int 0, PV.int (l.length : Int), PV.int (i : Int)]) (fun x => decide (x = s)) (fun i => (.int 1, [PV.int (i : Int)])) (.int 2, []) (by decide) (fun _ => rfl)
    (fun i x ht K => by
      have hi : i < l.length := (List.getElem?_eq_some_iff.1 ht).1
      have htl : l[i] = x := (List.getElem?_eq_some_iff.1 ht).2
      show F51r0 (callX tb k) k (.node (l.map PV.str)) (.str s) (.int 0) (.int (l.length : Int)) (.int (i : Int)) K = _
      unfold F51r0
      simp only [i_int, ltI_eq, l_node, s_str]
      rw [dec_t (show (i : Int) < (l.length : Int) by omega)]
      simp only [cond_true]
      rw [inP_map hi, needA_true, getP_map _ _ _ hi, htl, s_str, eqS_iff, addW_i64 (by omega) (by omega)]
      rw [show decide (s = x) = decide (x = s) from decide_eq_decide.2 ⟨Eq.symm, Eq.symm⟩]
      cases decide (x = s) <;> rfl)
    (fun K => by
      show F51r0 (callX tb k) k (.node (l.map PV.str)) (.str s) (.int 0) (.int (l.length : Int)) (.int (l.length : Int)) K = _
      unfold F51r0
      simp only [i_int, ltI_eq]
      rw [dec_f]
      rfl) (m := k) (by omega)
  have hloop : loopX k (F51r0L (callX tb k) k) [PV.node (l.map PV.str), PV.str s, PV.int 0, PV.int (l.length : Int), PV.int (0 : Int)] = _ := hloop
  simp only [s_str, l_node, lenP_map]
  rw [hloop]
  unfold placeI
  cases e : l.findIdx? (fun x => decide (x = s)) <;> rfl
theorem vars_does (t : Tm) : ∀ out : List (List Nat), out.length + Tm.nodes t < 900000 → Does tb 20 [.pv 29 (.node (out.map PV.str)), .pv 24 t.enc] (.node ((Tm.vars out t).map PV.str)) := by
  induction t using Tm.ind with
  | h kk p s n l ih =>
    intro out hn
    rw [Tm.nodes] at hn
    have hln := Tm.len_nodes l
    -- the loop, from any names on
    have loop : ∀ out : List (List Nat), out.length + Tm.nodesL l < 900000 → Ev fun k => loopX k (F20r0L (callX tb k) k) [PV.node (out.map PV.str), PV.int (0 : Int), Tm.enc (.mk kk p s n l)] = some (.int 2, [PV.node ((Tm.varsL out l).map PV.str), Tm.enc (.mk kk p s n l)]) := by
      intro out ho
      have hl : Ev fun k => ∀ i, i < l.length → callX tb k 20 [.pv 29 (.node ((Tm.varsL out (l.take i)).map PV.str)), .pv 24 (l.getD i (.mk 0 [] [] 0 [])).enc] [] = some (.node ((Tm.vars (Tm.varsL out (l.take i)) (l.getD i (.mk 0 [] [] 0 []))).map PV.str), []) := by
        refine Ev.all (P := fun i k => callX tb k 20 [.pv 29 (.node ((Tm.varsL out (l.take i)).map PV.str)), .pv 24 (l.getD i (.mk 0 [] [] 0 [])).enc] [] = some (.node ((Tm.vars (Tm.varsL out (l.take i)) (l.getD i (.mk 0 [] [] 0 []))).map PV.str), [])) l.length id fun i hi => ?_
        have e : l.getD i (.mk 0 [] [] 0 []) = l[i] := by simp [List.getD, hi]
        have h1 := Tm.varsL_len (l.take i) out
        have h2 := Tm.nodesL_succ (List.getElem?_eq_getElem hi)
        have h3 := Tm.nodesL_take l (i + 1)
        simp only [id]
        rw [e]
        exact (ih l[i] (List.getElem_mem hi) (Tm.varsL out (l.take i)) (by omega)).ev
      refine (hl.and (Ev.ge (l.length + 1))).mono fun k hkm => ?_
      obtain ⟨hk, hm⟩ := hkm
      have hloop := loopX_fold (round := F20r0L (callX tb k) k) l (fun i (a : List (List Nat)) => [PV.node (a.map PV.str), PV.int (i : Int), Tm.enc (.mk kk p s n l)])
        Tm.vars (.int 2) (fun a => [PV.node (a.map PV.str), Tm.enc (.mk kk p s n l)]) (fun i a => a = Tm.varsL out (l.take i)) (by decide)
        (fun i t a ht ha => ⟨fun K => by
          have hi : i < l.length := (List.getElem?_eq_some_iff.1 ht).1
          have htl : l[i] = t := (List.getElem?_eq_some_iff.1 ht).2
          show F20r0 (callX tb k) k (.node (a.map PV.str)) (.int (i : Int)) (Tm.enc (.mk kk p s n l)) K = _
          unfold F20r0
          simp only [i_int, ltI_eq, Tm.enc_l, l_node, Tm.l, lenP_map]
          rw [dec_t (show (i : Int) < (l.length : Int) by omega)]
          simp only [cond_true]
          have hk := hk i hi
          rw [show l.getD i (.mk 0 [] [] 0 []) = t by simp [List.getD, ht], ← ha] at hk
          rw [inP_map hi, needA_true, getP_map _ _ _ hi, htl, hk, bindA_some, addW_i64 (by omega) (by omega)]
          rfl, by rw [ha, Tm.varsL_succ ht]⟩)
        (fun a ha K => by
          show F20r0 (callX tb k) k (.node (a.map PV.str)) (.int (l.length : Int)) (Tm.enc (.mk kk p s n l)) K = _
          unfold F20r0
          simp only [i_int, ltI_eq, Tm.enc_l, l_node, Tm.l, lenP_map]
          rw [dec_f]
          rfl) (m := k) (by omega) (b0 := out) (by rw [List.take_zero, Tm.varsL])
      rw [Tm.varsL_fold]
      exact hloop
    by_cases hk1 : kk = 1
    · subst hk1
      by_cases hs : s ∈ out
      · refine Does.step rfl (((in_does s out (by omega)).ev.and (loop out (by omega))).mono fun k hk => ?_)
        obtain ⟨h1, h2⟩ := hk
        refine (F20_body (callX tb k) k (.node (out.map PV.str)) (Tm.enc (.mk 1 p s n l))).trans ?_
        unfold F20
        simp only [Tm.enc_k, Tm.enc_s, Tm.k, Tm.s, i_int, s_str, l_node]
        rw [show eqI 1 1 = true by decide, h1, bindA_some, h2, decide_eq_true hs]
        simp only [cond_true, b_bool, notB_true, cond_false, bindA_some, i_int]
        rw [show eqI 2 2 = true by decide, needA_true, hd_cons, Tm.vars, if_pos rfl, Tm.snoc, if_pos hs]
      · refine Does.step rfl (((in_does s out (by omega)).ev.and (loop (out ++ [s]) (by simp; omega))).mono fun k hk => ?_)
        obtain ⟨h1, h2⟩ := hk
        refine (F20_body (callX tb k) k (.node (out.map PV.str)) (Tm.enc (.mk 1 p s n l))).trans ?_
        unfold F20
        simp only [Tm.enc_k, Tm.enc_s, Tm.k, Tm.s, i_int, s_str, l_node]
        rw [show eqI 1 1 = true by decide, h1, bindA_some, decide_eq_false hs]
        simp only [cond_true, b_bool, notB_false]
        have e1 : appP (appP [] (out.map PV.str)) [PV.str s] = (out ++ [s]).map PV.str := by simp [appP]
        rw [smallP_of (by simp; omega), needA_true, smallP_of (by simp [appP]; omega), needA_true, e1, h2, bindA_some]
        simp only [i_int]
        rw [show eqI 2 2 = true by decide, needA_true, hd_cons, Tm.vars, if_pos rfl, Tm.snoc, if_neg hs]
    · refine Does.step rfl ((loop out (by omega)).mono fun k h2 => ?_)
      refine (F20_body (callX tb k) k (.node (out.map PV.str)) (Tm.enc (.mk kk p s n l))).trans ?_
      unfold F20
      simp only [Tm.enc_k, Tm.enc_s, Tm.k, Tm.s, i_int, s_str, l_node]
      rw [eqI_iff, decide_eq_false hk1, h2]
      simp only [cond_false, bindA_some, i_int]
      rw [show eqI 2 2 = true by decide, needA_true, hd_cons, Tm.vars, if_neg hk1]
end Go.Proofs.YtglgkhodminffaaGreatDoor.PV
