/- What term.Subst answers, for every term. -/
import Derived.Test.YtglgkhodminffaaGreatDoorPTermBV
namespace Go.Proofs.YtglgkhodminffaaGreatDoor.PV
open Px Go Go.RowKit Go.Proofs
set_option linter.unusedVariables false
set_option linter.unusedSimpArgs false
set_option maxRecDepth 100000
def zeroP : PV := .node [.int 0, .str [], .str [], .int 0, .node []]
theorem setP_done {b : List Tm} {n : Nat} {x : Tm} : setP (b.map Tm.enc ++ List.replicate (n + 1) zeroP) (b.length : Int) x.enc = (b ++ [x]).map Tm.enc ++ List.replicate n zeroP := by
  unfold setP
  rw [Int.toNat_natCast, List.set_append_right _ _ (by simp), List.replicate_succ]
  simp
theorem subst_does (names : List (List Nat)) (bys : List Tm) (hnm : names.length < 9223372036854775808) (t : Tm) : Tm.Thin 100000 t → Does tb 23 [.pv 24 t.enc, .pv 29 (.node (names.map PV.str)), .pv 22 (.node (bys.map Tm.enc))] (Tm.sub names bys t).enc := by
  induction t using Tm.ind with
  | h kk p s n l ih =>
    intro hn
    have hlen : l.length ≤ 100000 := hn.len
    have hl : Ev fun k => ∀ t ∈ l, callX tb k 23 [.pv 24 t.enc, .pv 29 (.node (names.map PV.str)), .pv 22 (.node (bys.map Tm.enc))] [] = some ((Tm.sub names bys t).enc, []) :=
      Ev.list fun t ht => (ih t ht (hn.kid ht)).ev
    refine Does.step rfl (((hl.and (Ev.ge (l.length + 1))).and (index_does names s hnm).ev).mono fun k hkm => ?_)
    obtain ⟨⟨hk, hm⟩, hx⟩ := hkm
    refine (F23_body (callX tb k) k (Tm.enc (.mk kk p s n l)) (.node (names.map PV.str)) (.node (bys.map Tm.enc))).trans ?_
    unfold F23
    have hloop := loopX_fold (round := F23r0L (callX tb k) k) l
      (fun i (b : List Tm) => [PV.node (names.map PV.str), PV.node (bys.map Tm.enc), PV.node (l.map Tm.enc), PV.int (l.length : Int), PV.int (i : Int), Tm.enc (.mk kk p s n l), zeroP, PV.node (b.map Tm.enc ++ List.replicate (l.length - i) zeroP)])
      (fun b t => b ++ [Tm.sub names bys t]) (.int 2) (fun b => [Tm.enc (.mk kk p s n l), zeroP, PV.node (b.map Tm.enc)]) (fun i b => b.length = i) (by decide)
      (fun i t b ht hb => ⟨fun K => by
        have hi : i < l.length := (List.getElem?_eq_some_iff.1 ht).1
        have htl : l[i] = t := (List.getElem?_eq_some_iff.1 ht).2
        show F23r0 (callX tb k) k (.node (names.map PV.str)) (.node (bys.map Tm.enc)) (.node (l.map Tm.enc)) (.int (l.length : Int)) (.int (i : Int)) (Tm.enc (.mk kk p s n l)) zeroP (.node (b.map Tm.enc ++ List.replicate (l.length - i) zeroP)) K = _
        unfold F23r0
        simp only [i_int, ltI_eq, l_node]
        rw [dec_t (show (i : Int) < (l.length : Int) by omega)]
        simp only [cond_true]
        have hin : inP (b.map Tm.enc ++ List.replicate (l.length - i) zeroP) (i : Int) = true := inP_nat (by simp; omega)
        rw [inP_map hi, needA_true, getP_map _ _ _ hi, htl, hk t (List.mem_of_getElem? ht), bindA_some, hin, needA_true, needA_true, addW_i64 (by omega) (by omega)]
        obtain ⟨m, hm⟩ : ∃ m, l.length - i = m + 1 := ⟨l.length - i - 1, by omega⟩
        rw [hm, ← hb, setP_done, show l.length - (b.length + 1) = m by omega]
        rfl, by simp [hb]⟩)
      (fun b hb K => by
        show F23r0 (callX tb k) k (.node (names.map PV.str)) (.node (bys.map Tm.enc)) (.node (l.map Tm.enc)) (.int (l.length : Int)) (.int (l.length : Int)) (Tm.enc (.mk kk p s n l)) zeroP (.node (b.map Tm.enc ++ List.replicate (l.length - l.length) zeroP)) K = _
        unfold F23r0
        simp only [i_int, ltI_eq, l_node]
        rw [dec_f, Nat.sub_self, List.replicate_zero, List.append_nil]
        rfl) (m := k) (by omega) (b0 := []) rfl
    have hfold : ∀ (l : List Tm) (b : List Tm), l.foldl (fun b t => b ++ [Tm.sub names bys t]) b = b ++ l.map (Tm.sub names bys) := by
      intro l
      induction l with
      | nil => intro b; simp
      | cons x l ihl => intro b; simp [ihl]
    rw [hfold, List.nil_append] at hloop
    have hloop : loopX k (F23r0L (callX tb k) k) [PV.node (names.map PV.str), PV.node (bys.map Tm.enc), PV.node (l.map Tm.enc), PV.int (l.length : Int), PV.int (0 : Int), Tm.enc (.mk kk p s n l), zeroP, PV.node (List.replicate l.length zeroP)] = _ := hloop
    simp only [Tm.enc_k, Tm.enc_s, Tm.enc_l, Tm.k, Tm.s, Tm.l, i_int, s_str, l_node, lenP_map]
    have hrep : repP (l.length : Int) (PV.node [(PV.int (0 : Int)), (PV.str []), (PV.str []), (PV.int (0 : Int)), (PV.node [])]) = List.replicate l.length zeroP := by unfold repP; rw [Int.toNat_natCast]; rfl
    have hz : (PV.node [(PV.int (0 : Int)), (PV.str []), (PV.str []), (PV.int (0 : Int)), (PV.node [])]) = zeroP := rfl
    rw [hrep, hz, hloop, hx]
    have hcut : cutOk (0 : Int) (l.length : Int) (100000 : Int) = true := by simp [cutOk]; omega
    rw [hcut]
    simp only [bindA_some, needA_true, i_int, hd_cons, tl_cons, l_node, Tm.enc_k, Tm.enc_p, Tm.enc_s, Tm.enc_n, Tm.k, Tm.p, Tm.s, Tm.n, s_str]
    rw [show eqI 2 2 = true by decide]
    simp only [needA_true]
    have hrest : (bif eqI (l.length : Int) 0 then some (Tm.enc (.mk kk p s n l), []) else some (PV.node [PV.int kk, PV.str p, PV.str s, PV.int n, PV.node ((l.map (Tm.sub names bys)).map Tm.enc)], [])) = (some (Tm.enc (.mk kk p s n (l.map (Tm.sub names bys))), []) : Ans) := by
      rw [eqI_iff, Tm.enc_mk, Tm.enc_mk]
      by_cases h0 : l = []
      · subst h0; rfl
      · rw [decide_eq_false (by have := List.length_pos_iff.2 h0; omega)]; rfl
    simp only [hrest, cond_same]
    rw [Tm.sub_mk, eqI_iff]
    by_cases hk1 : kk = 1
    · rw [decide_eq_true hk1, if_pos hk1]
      simp only [cond_true]
      unfold placeI Tm.put
      cases e : names.findIdx? (fun x => decide (x = s)) with
      | none => rfl
      | some i =>
        simp only [leI_eq, ltI_eq]
        rw [decide_eq_true (show (0 : Int) ≤ (i : Int) by omega)]
        simp only [cond_true]
        by_cases hi : i < bys.length
        · rw [dec_t (show (i : Int) < (bys.length : Int) by omega), List.getElem?_eq_getElem hi, inP_map hi, getP_map _ _ _ hi]
          rfl
        · rw [decide_eq_false (show ¬ (i : Int) < (bys.length : Int) by omega), List.getElem?_eq_none (by omega)]
          rfl
    · rw [decide_eq_false hk1, if_neg hk1]
      rfl
end Go.Proofs.YtglgkhodminffaaGreatDoor.PV
