/- What the reference's Subst answers, and TermVars as a plain law. -/
import Derived.Test.YtglgkhodminffaaGreatDoorPVarsAV
namespace Go.Proofs.YtglgkhodminffaaGreatDoor.PV
open Px Go Go.RowKit Go.Proofs
set_option linter.unusedVariables false
set_option linter.unusedSimpArgs false
set_option maxRecDepth 100000
/-- One name of the reference's Subst. -/
def nameStep (kk : Int) (s : List Nat) (bys : List Tm) (p0 : PV) (go : PV × List PV) (i : Nat) (x : List Nat) (_ : Unit) : Unit ⊕ (PV × List PV) :=
  if kk = 1 then (if x = s then (match bys[i]? with | some b => .inr (.int 1, [p0, b.enc]) | none => .inr go) else .inl ()) else .inr go
def nameOut (p0 : PV) (go : PV × List PV) : Option Tm → PV × List PV
  | some b => (.int 1, [p0, b.enc])
  | none => go
def nameAt (kk : Int) (s : List Nat) (bys : List Tm) (i : Nat) (ns : List (List Nat)) : Option Tm := if kk = 1 then (match ns.findIdx? (fun x => decide (x = s)) with | some j => bys[i + j]? | none => none) else none
theorem nameStep_run (kk : Int) (s : List Nat) (bys : List Tm) (p0 : PV) (go : PV × List PV) : ∀ (ns : List (List Nat)) (i : Nat), endL (fun _ => go) (runL (nameStep kk s bys p0 go) i ns ()) = nameOut p0 go (nameAt kk s bys i ns)
  | [], i => by unfold nameAt; by_cases h : kk = 1 <;> simp [h, runL, endL, nameOut]
  | x :: ns, i => by
    have ih := nameStep_run kk s bys p0 go ns (i + 1)
    by_cases hk1 : kk = 1
    · by_cases hx : x = s
      · have ef : nameAt kk s bys i (x :: ns) = bys[i]? := by
          unfold nameAt
          rw [if_pos hk1, List.findIdx?_cons, decide_eq_true hx]
          rfl
        rw [ef, runL]
        cases hb : bys[i]? with
        | none =>
          have st : nameStep kk s bys p0 go i x () = .inr go := by unfold nameStep; rw [if_pos hk1, if_pos hx, hb]
          rw [st]; rfl
        | some b =>
          have st : nameStep kk s bys p0 go i x () = .inr (.int 1, [p0, b.enc]) := by unfold nameStep; rw [if_pos hk1, if_pos hx, hb]
          rw [st]; rfl
      · have st : nameStep kk s bys p0 go i x () = .inl () := by unfold nameStep; rw [if_pos hk1, if_neg hx]
        have ef : nameAt kk s bys i (x :: ns) = nameAt kk s bys (i + 1) ns := by
          unfold nameAt
          rw [if_pos hk1, if_pos hk1, List.findIdx?_cons, decide_eq_false hx]
          cases ns.findIdx? (fun x => decide (x = s)) with
          | none => rfl
          | some j => simp [Nat.add_assoc, Nat.add_comm 1 j]
        rw [ef, runL, st]
        exact ih
    · have st : nameStep kk s bys p0 go i x () = .inr go := by unfold nameStep; rw [if_neg hk1]
      rw [runL, st]
      unfold nameAt
      rw [if_neg hk1]
      rfl
theorem sub_at_none {names : List (List Nat)} {bys : List Tm} {kk : Int} {p s : List Nat} {n : Int} {l : List Tm} (e : (if kk = 1 then Tm.put names bys s else none) = none) : Tm.sub names bys (.mk kk p s n l) = .mk kk p s n (l.map (Tm.sub names bys)) := by
  rw [Tm.sub_mk]
  by_cases hk1 : kk = 1
  · rw [if_pos hk1] at e ⊢
    rw [e]
  · rw [if_neg hk1]
theorem sub_at_some {names : List (List Nat)} {bys : List Tm} {kk : Int} {p s : List Nat} {n : Int} {l : List Tm} {b : Tm} (e : (if kk = 1 then Tm.put names bys s else none) = some b) : Tm.sub names bys (.mk kk p s n l) = b := by
  rw [Tm.sub_mk]
  by_cases hk1 : kk = 1
  · rw [if_pos hk1] at e ⊢
    rw [e]
  · rw [if_neg hk1] at e; cases e
theorem rsubst_does (names : List (List Nat)) (bys : List Tm) (hnm : names.length < 9223372036854775808) (t : Tm) : Tm.Thin 100000 t → Does tb 24 [.pv 24 t.enc, .pv 29 (.node (names.map PV.str)), .pv 22 (.node (bys.map Tm.enc))] (Tm.sub names bys t).enc := by
  induction t using Tm.ind with
  | h kk p s n l ih =>
    intro hn
    have hlen : l.length ≤ 100000 := hn.len
    have hl : Ev fun k => ∀ t ∈ l, callX tb k 24 [.pv 24 t.enc, .pv 29 (.node (names.map PV.str)), .pv 22 (.node (bys.map Tm.enc))] [] = some ((Tm.sub names bys t).enc, []) :=
      Ev.list fun t ht => (ih t ht (hn.kid ht)).ev
    refine Does.step rfl (((hl.and (Ev.ge (l.length + 1))).and (Ev.ge (names.length + 1))).mono fun k hkm => ?_)
    obtain ⟨⟨hk, hm⟩, hm2⟩ := hkm
    refine (F24_body (callX tb k) k (Tm.enc (.mk kk p s n l)) (.node (names.map PV.str)) (.node (bys.map Tm.enc))).trans ?_
    unfold F24
    -- the names gone through
    have h0 := loopX_list (round := F24r0L (callX tb k) k) names (fun i (_ : Unit) => [PV.node (names.map PV.str), PV.node (bys.map Tm.enc), PV.int (i : Int), Tm.enc (.mk kk p s n l), zeroP])
      (nameStep kk s bys (Tm.enc (.mk kk p s n l)) (PV.int 2, [PV.node (names.map PV.str), PV.node (bys.map Tm.enc), Tm.enc (.mk kk p s n l), zeroP]))
      (fun _ => (PV.int 2, [PV.node (names.map PV.str), PV.node (bys.map Tm.enc), Tm.enc (.mk kk p s n l), zeroP])) (fun _ _ => True)
      (fun i x _ ht _ => by
        have hi : i < names.length := (List.getElem?_eq_some_iff.1 ht).1
        have htl : names[i] = x := (List.getElem?_eq_some_iff.1 ht).2
        have go : ∀ K, F24r0L (callX tb k) k [PV.node (names.map PV.str), PV.node (bys.map Tm.enc), PV.int (i : Int), Tm.enc (.mk kk p s n l), zeroP] K = bif eqI kk 1 then (bif eqS x s then (bif ltI (i : Int) (bys.length : Int) then needA (inP (bys.map Tm.enc) (i : Int)) (K (.int 1) [Tm.enc (.mk kk p s n l), getP (bys.map Tm.enc) (i : Int)]) else K (.int 2) [PV.node (names.map PV.str), PV.node (bys.map Tm.enc), Tm.enc (.mk kk p s n l), zeroP]) else K (.int 0) [PV.node (names.map PV.str), PV.node (bys.map Tm.enc), PV.int ((i + 1 : Nat) : Int), Tm.enc (.mk kk p s n l), zeroP]) else K (.int 2) [PV.node (names.map PV.str), PV.node (bys.map Tm.enc), Tm.enc (.mk kk p s n l), zeroP] := by
          intro K
          show F24r0 (callX tb k) k (.node (names.map PV.str)) (.node (bys.map Tm.enc)) (.int (i : Int)) (Tm.enc (.mk kk p s n l)) zeroP K = _
          unfold F24r0
          simp only [i_int, l_node, lenP_map, Tm.enc_k, Tm.k, Tm.enc_s, Tm.s, s_str]
          rw [ltI_t (show (i : Int) < (names.length : Int) by omega), inP_map hi, getP_map _ _ _ hi, htl, addW_i64 (by omega) (by omega)]
          simp only [cond_true, needA_true, s_str]
          rfl
        unfold nameStep
        by_cases hk1 : kk = 1
        · rw [if_pos hk1]
          by_cases hx : x = s
          · rw [if_pos hx]
            by_cases hb : i < bys.length
            · rw [List.getElem?_eq_getElem hb]
              refine ⟨fun K => ?_, rfl⟩
              rw [go K, eqI_t hk1, eqS_t hx, ltI_t (show (i : Int) < (bys.length : Int) by omega), inP_map hb, getP_map _ _ _ hb]
              rfl
            · rw [List.getElem?_eq_none (by omega)]
              refine ⟨fun K => ?_, rfl⟩
              rw [go K, eqI_t hk1, eqS_t hx, ltI_f (show ¬ (i : Int) < (bys.length : Int) by omega)]
              rfl
          · rw [if_neg hx]
            refine ⟨fun K => ?_, trivial⟩
            rw [go K, eqI_t hk1, eqS_f hx]
            rfl
        · rw [if_neg hk1]
          refine ⟨fun K => ?_, rfl⟩
          rw [go K, eqI_f hk1]
          rfl)
      (fun _ _ => ⟨fun K => by
        show F24r0 (callX tb k) k (.node (names.map PV.str)) (.node (bys.map Tm.enc)) (.int (names.length : Int)) (Tm.enc (.mk kk p s n l)) zeroP K = _
        unfold F24r0
        simp only [i_int, l_node, lenP_map]
        rw [ltI_f (show ¬ (names.length : Int) < (names.length : Int) by omega)]
        rfl, rfl⟩) (m := k) (by omega) (b0 := ()) trivial
    rw [nameStep_run] at h0
    have h0 : loopX k (F24r0L (callX tb k) k) [PV.node (names.map PV.str), PV.node (bys.map Tm.enc), PV.int (0 : Int), Tm.enc (.mk kk p s n l), zeroP] = _ := h0
    have hloop := loopX_fold (round := F24r1L (callX tb k) k) l
      (fun i (b : List Tm) => [PV.node (names.map PV.str), PV.node (bys.map Tm.enc), PV.int (i : Int), Tm.enc (.mk kk p s n l), zeroP, PV.int kk, PV.str p, PV.str s, PV.int n, PV.node (b.map Tm.enc)])
      (fun b t => b ++ [Tm.sub names bys t]) (.int 4) (fun b => [Tm.enc (.mk kk p s n l), zeroP, PV.int kk, PV.str p, PV.str s, PV.int n, PV.node (b.map Tm.enc)]) (fun i b => b.length = i) rfl
      (fun i t b ht hb => ⟨fun K => by
        have hi : i < l.length := (List.getElem?_eq_some_iff.1 ht).1
        have htl : l[i] = t := (List.getElem?_eq_some_iff.1 ht).2
        show F24r1 (callX tb k) k (.node (names.map PV.str)) (.node (bys.map Tm.enc)) (.int (i : Int)) (Tm.enc (.mk kk p s n l)) zeroP (.int kk) (.str p) (.str s) (.int n) (.node (b.map Tm.enc)) K = _
        unfold F24r1
        simp only [i_int, l_node, Tm.enc_l, Tm.l, lenP_map, s_str]
        rw [ltI_t (show (i : Int) < (l.length : Int) by omega)]
        simp only [cond_true]
        rw [inP_map hi, needA_true, getP_map _ _ _ hi, htl, hk t (List.mem_of_getElem? ht), bindA_some, smallP_of (by simp; omega), needA_true, addW_i64 (by omega) (by omega)]
        have e1 : appP (b.map Tm.enc) [(Tm.sub names bys t).enc] = (b ++ [Tm.sub names bys t]).map Tm.enc := by simp [appP]
        rw [e1]
        rfl, by simp [hb]⟩)
      (fun b hb K => by
        show F24r1 (callX tb k) k (.node (names.map PV.str)) (.node (bys.map Tm.enc)) (.int (l.length : Int)) (Tm.enc (.mk kk p s n l)) zeroP (.int kk) (.str p) (.str s) (.int n) (.node (b.map Tm.enc)) K = _
        unfold F24r1
        simp only [i_int, l_node, Tm.enc_l, Tm.l, lenP_map]
        rw [ltI_f (show ¬ (l.length : Int) < (l.length : Int) by omega)]
        rfl) (m := k) (by omega) (b0 := []) rfl
    have hfold : ∀ (l : List Tm) (b : List Tm), l.foldl (fun b t => b ++ [Tm.sub names bys t]) b = b ++ l.map (Tm.sub names bys) := by
      intro l
      induction l with
      | nil => intro b; simp
      | cons x l ihl => intro b; simp [ihl]
    rw [hfold, List.nil_append] at hloop
    have hloop : loopX k (F24r1L (callX tb k) k) [PV.node (names.map PV.str), PV.node (bys.map Tm.enc), PV.int (0 : Int), Tm.enc (.mk kk p s n l), zeroP, PV.int kk, PV.str p, PV.str s, PV.int n, PV.node []] = _ := hloop
    have hz : (PV.node [(PV.int (0 : Int)), (PV.str []), (PV.str []), (PV.int (0 : Int)), (PV.node [])]) = zeroP := rfl
    simp only [hz]
    have hput : nameAt kk s bys 0 names = if kk = 1 then Tm.put names bys s else none := by
      unfold Tm.put nameAt
      by_cases hk1 : kk = 1
      · rw [if_pos hk1, if_pos hk1]
        cases names.findIdx? (fun x => decide (x = s)) with
        | none => rfl
        | some j => simp
      · rw [if_neg hk1, if_neg hk1]
    rw [hput] at h0
    cases e : (if kk = 1 then Tm.put names bys s else none : Option Tm) with
    | some b =>
      rw [e] at h0
      simp only [nameOut] at h0
      rw [sub_at_some e, h0]
      rfl
    | none =>
      rw [e] at h0
      simp only [nameOut] at h0
      rw [sub_at_none e, h0]
      simp only [bindA_some, i_int, hd_cons, tl_cons, Tm.enc_k, Tm.enc_p, Tm.enc_s, Tm.enc_n, Tm.k, Tm.p, Tm.s, Tm.n, s_str]
      rw [show eqI 2 1 = false by decide, show eqI 2 2 = true by decide]
      simp only [cond_false, needA_true]
      rw [hloop]
      simp only [bindA_some, i_int, hd_cons, tl_cons, s_str, l_node]
      rw [show eqI 4 4 = true by decide, needA_true, Tm.enc_mk]
end Go.Proofs.YtglgkhodminffaaGreatDoor.PV
