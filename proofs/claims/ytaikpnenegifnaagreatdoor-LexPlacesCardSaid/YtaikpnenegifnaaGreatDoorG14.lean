import Derived.Test.YtaikpnenegifnaaGreatDoorG0
import Derived.Test.YtaikpnenegifnaaGreatDoorXLx2
import Derived.Test.YtaikpnenegifnaaGreatDoorG13
-- written by wip/xp.py, a program of this project's session, over the kit's printer
namespace Go.Proofs.YtaikpnenegifnaaGreatDoor.XL
open Go.RowKit Go.Proofs.YtaikpnenegifnaaGreatDoorW.PrintWords Go.Proofs.YtaikpnenegifnaaGreatDoorW.PrintLast Go.Proofs.YtaikpnenegifnaaGreatDoorW.PrintMore
attribute [local go_sem] max2_int min2_int max_two min_two max_three min_three max_four min_four   -- for this text's walks alone
set_option linter.unusedVariables false
set_option linter.unusedSimpArgs false

/-! ### touchstoneref06_Right: function 13 -/
def touchstoneref06_Right.j0 : Nat → Bool → Int → ByteArray → Int → Int → Option (Bool)
  | 0, _, _, _, _, _ => none
  | k + 1, x34, x150000, x150001, x150002, x150003 => if x34 = true then (some false) else ((touchstoneref06_Told.f k x150000 x150001 x150002 x150003).bind fun t150 => (if t150.toList = ([] : List UInt8) then (some false) else ((touchstoneref06_One.f t150 0).bind fun bt151 => (if bt151.2.2.2.2 = (t150.size : Int) then (if bt151.1 = x150000 then (if bt151.2.1.toList = x150001.toList then (some (bt151.2.2.1 == x150002)) else (some false)) else (some false)) else (some false)))))
def touchstoneref06_Right.f (k : Nat) (a0_0 : Int) (a0_1 : ByteArray) (a0_2 : Int) (a0_3 : Int) : Option (Bool) := if a0_0 < 1 then (touchstoneref06_Right.j0 k true a0_0 a0_1 a0_2 a0_3) else (if a0_0 > 8 then (touchstoneref06_Right.j0 k true a0_0 a0_1 a0_2 a0_3) else (if (a0_1.size : Int) > 1000 then (touchstoneref06_Right.j0 k true a0_0 a0_1 a0_2 a0_3) else (if a0_0 = 4 then (if a0_2 < (-999999999999999999) then (touchstoneref06_Right.j0 k true a0_0 a0_1 a0_2 a0_3) else (touchstoneref06_Right.j0 k (decide (a0_2 > 999999999999999999)) a0_0 a0_1 a0_2 a0_3)) else (touchstoneref06_Right.j0 k false a0_0 a0_1 a0_2 a0_3))))
theorem touchstoneref06_Right.mono_l : ∀ k, (∀ y0 y1 y2 y3 y4, LeO (touchstoneref06_Right.j0 k y0 y1 y2 y3 y4) (touchstoneref06_Right.j0 (k + 1) y0 y1 y2 y3 y4))
  | 0 => fun _ _ _ _ _ r h => by simp [touchstoneref06_Right.j0] at h
  | k + 1 => by
    have ih0 := touchstoneref06_Right.mono_l k
    · intro y0 y1 y2 y3 y4
      unfold touchstoneref06_Right.j0
      repeat' first
      | (with_reducible exact ih0 _ _ _ _ _)
      | (with_reducible exact touchstoneref06_Told.mono _ _ _ _ _)
      | (with_reducible exact LeO.refl _)
      | (with_reducible exact LeO.none _)
      | (with_reducible refine LeO.ite ?_ ?_)
      | (with_reducible refine LeO.bind ?_ (fun _ => ?_))
      | exact ih0 _ _ _ _ _
      | exact touchstoneref06_Told.mono _ _ _ _ _
      | exact LeO.none _
      | refine LeO.ite ?_ ?_
      | refine LeO.bind ?_ (fun _ => ?_)
theorem touchstoneref06_Right.mono : ∀ a0 a1 a2 a3 k, LeO (touchstoneref06_Right.f k a0 a1 a2 a3) (touchstoneref06_Right.f (k + 1) a0 a1 a2 a3) := by
  intro a0 a1 a2 a3 k
  have ih0 := touchstoneref06_Right.mono_l k
  unfold touchstoneref06_Right.f
  repeat' first
      | (with_reducible exact ih0 _ _ _ _ _)
      | (with_reducible exact touchstoneref06_Told.mono _ _ _ _ _)
      | (with_reducible exact LeO.refl _)
      | (with_reducible exact LeO.none _)
      | (with_reducible refine LeO.ite ?_ ?_)
      | (with_reducible refine LeO.bind ?_ (fun _ => ?_))
      | exact ih0 _ _ _ _ _
      | exact touchstoneref06_Told.mono _ _ _ _ _
      | exact LeO.none _
      | refine LeO.ite ?_ ?_
      | refine LeO.bind ?_ (fun _ => ?_)
set_option maxHeartbeats 8000000 in
set_option maxRecDepth 100000 in
theorem touchstoneref06_Right.calls (k : Nat) (a0_0 : Int) (a0_1 : ByteArray) (a0_2 : Int) (a0_3 : Int) (r : Bool) (w : World) (h : touchstoneref06_Right.f k a0_0 a0_1 a0_2 a0_3 = some r) :
    Calls Tryz.prog 13 #[.agg #[.int .i64 a0_0, .string a0_1, .int .i64 a0_2, .int .i64 a0_3]] w fun e w' => e = .returned (.bool r) ∧ Below w.heap.size w w' := by
  have hu32 := Tryz.underlying32
  have HB := Aside0.mk (Below.refl w.heap.size w)
  have H : (if a0_0 < 1 then (touchstoneref06_Right.j0 k true a0_0 a0_1 a0_2 a0_3) else (if a0_0 > 8 then (touchstoneref06_Right.j0 k true a0_0 a0_1 a0_2 a0_3) else (if (a0_1.size : Int) > 1000 then (touchstoneref06_Right.j0 k true a0_0 a0_1 a0_2 a0_3) else (if a0_0 = 4 then (if a0_2 < (-999999999999999999) then (touchstoneref06_Right.j0 k true a0_0 a0_1 a0_2 a0_3) else (touchstoneref06_Right.j0 k (decide (a0_2 > 999999999999999999)) a0_0 a0_1 a0_2 a0_3)) else (touchstoneref06_Right.j0 k false a0_0 a0_1 a0_2 a0_3))))) = some r := h
  clear h
  have HC2 := Aside0.mk H
  clear H
  go_enter Tryz.func13, Tryz.ntmps13
  go_upto_region 1 with (first | ((with_reducible refine gate_dst (N := 1) rfl ?_); (try (refine gate_guard (by rfl) ?_; dsimp only)); refine box_event ?hg (N := 1) ?hd (cs := #[.int .i64 a0_0, .string a0_1, .int .i64 a0_2, .int .i64 a0_3]) (t := 32) ?hr ?_; (case hd => rfl); (case hg => rfl); (case hr => first | (go_simp; done) | (go_simp; rfl)); intro gb149 hg w3 hbox hb; have n0_ := Aside0.mk (below_step (by repeat (first | (with_reducible first | exact HB.out | apply below_alloc | apply pw_below_drewN | apply below_drew1) | exact HB.out)) hb); have n1_ := Aside0.mk (hbox); have n2_ := Aside0.mk ((by rw [hg]; exact (below_size (by repeat (first | (with_reducible first | exact HB.out | apply below_alloc | apply pw_below_drewN | apply below_drew1) | exact HB.out))) : w.heap.size ≤ gb149)); have n3_ := Aside0.mk ((by rw [hg]; exact (below_size (by repeat (first | (with_reducible first | exact HB.out | apply below_alloc | apply pw_below_drewN | apply below_drew1) | exact HB.out))) : w.heap.size ≤ gb149)); clear HB; have HB := n0_; have BK149 := n1_; have GW149 := n2_; have GE149 := n3_; clear n0_ n1_ n2_ n3_; clear hb hbox hg))
  (try simp only [Act.put, List.setIfInBounds_toArray, List.set_cons_zero, List.set_cons_succ])
  go_cut [34] (fun v34 wc => ∃ (kq : Nat) (x34_1 : Bool), v34 = .bool x34_1 ∧ Aside0 (touchstoneref06_Right.j0 kq x34_1 a0_0 a0_1 a0_2 a0_3 = some r) ∧ Aside0 (kq ≤ k) ∧ Aside0 (wc.heap[gb149]? = some (.cells #[.int .i64 a0_0, .string a0_1, .int .i64 a0_2, .int .i64 a0_3] 32 (0, 0))) ∧ Aside0 (Below w.heap.size w wc))
  case first =>
   have H := HC2.out
   clear HC2
   by_cases c4 : a0_0 < 1
   ·rw [if_pos c4] at H
    have c4b0 : decide (a0_0 < 1) = true := decide_eq_true c4
    clear c4
    (first | rw [c4b0] | (simp only [i64_w, i32_w]; rw [c4b0]) | rw [c4b2] | skip)
    have H' := Aside0.mk H
    clear H
    have hcz5_0 : w3.cell? ⟨gb149, 0, none⟩ = some (.int .i64 a0_0) := (blk_cell BK149.out 0).trans rfl
    have hcz5_1 : w3.cell? ⟨gb149, 1, none⟩ = some (.string a0_1) := (blk_cell BK149.out 1).trans rfl
    have hcz5_2 : w3.cell? ⟨gb149, 2, none⟩ = some (.int .i64 a0_2) := (blk_cell BK149.out 2).trans rfl
    have hcz5_3 : w3.cell? ⟨gb149, 3, none⟩ = some (.int .i64 a0_3) := (blk_cell BK149.out 3).trans rfl
    have hfz5_0 := blk_frozen BK149.out 0
    have hfz5_1 := blk_frozen BK149.out 1
    have hfz5_2 := blk_frozen BK149.out 2
    have hfz5_3 := blk_frozen BK149.out 3
    go_wp2
    go_meet
    case rel => exact ⟨_, (true), (by first | rfl | (simp; done) | (simp [*]; done)), H', ⟨by first | omega | exact Nat.le_refl _⟩, ⟨by (with_reducible repeat (first | refine blk_drewN ?_ _ | refine blk_drew ?_ | refine blk_alloc ?_ _)); exact BK149.out⟩, ⟨by repeat (first | (with_reducible first | exact HB.out | apply below_alloc | apply pw_below_drewN | apply below_drew1 | refine below_set ?_ GE149.out) | exact HB.out)⟩⟩
   ·rw [if_neg c4] at H
    have c4b0 : decide (a0_0 < 1) = false := decide_eq_false c4
    clear c4
    (first | rw [c4b0] | (simp only [i64_w, i32_w]; rw [c4b0]) | rw [c4b2] | skip)
    by_cases c6 : a0_0 > 8
    ·rw [if_pos c6] at H
     have c6b0 : decide (8 < a0_0) = true := decide_eq_true c6
     clear c6
     have H' := Aside0.mk H
     clear H
     have hcz7_0 : w3.cell? ⟨gb149, 0, none⟩ = some (.int .i64 a0_0) := (blk_cell BK149.out 0).trans rfl
     have hcz7_1 : w3.cell? ⟨gb149, 1, none⟩ = some (.string a0_1) := (blk_cell BK149.out 1).trans rfl
     have hcz7_2 : w3.cell? ⟨gb149, 2, none⟩ = some (.int .i64 a0_2) := (blk_cell BK149.out 2).trans rfl
     have hcz7_3 : w3.cell? ⟨gb149, 3, none⟩ = some (.int .i64 a0_3) := (blk_cell BK149.out 3).trans rfl
     have hfz7_0 := blk_frozen BK149.out 0
     have hfz7_1 := blk_frozen BK149.out 1
     have hfz7_2 := blk_frozen BK149.out 2
     have hfz7_3 := blk_frozen BK149.out 3
     go_wp2
     go_meet
     case rel => exact ⟨_, (true), (by first | rfl | (simp; done) | (simp [*]; done)), H', ⟨by first | omega | exact Nat.le_refl _⟩, ⟨by (with_reducible repeat (first | refine blk_drewN ?_ _ | refine blk_drew ?_ | refine blk_alloc ?_ _)); exact BK149.out⟩, ⟨by repeat (first | (with_reducible first | exact HB.out | apply below_alloc | apply pw_below_drewN | apply below_drew1 | refine below_set ?_ GE149.out) | exact HB.out)⟩⟩
    ·rw [if_neg c6] at H
     have c6b0 : decide (8 < a0_0) = false := decide_eq_false c6
     clear c6
     by_cases c8 : (a0_1.size : Int) > 1000
     ·rw [if_pos c8] at H
      have c8b0 : decide (1000 < (a0_1.size : Int)) = true := decide_eq_true c8
      have c8b1 : decide (1000 < a0_1.size) = true := decide_eq_true (by omega)
      clear c8
      have H' := Aside0.mk H
      clear H
      have hcz9_0 : w3.cell? ⟨gb149, 0, none⟩ = some (.int .i64 a0_0) := (blk_cell BK149.out 0).trans rfl
      have hcz9_1 : w3.cell? ⟨gb149, 1, none⟩ = some (.string a0_1) := (blk_cell BK149.out 1).trans rfl
      have hcz9_2 : w3.cell? ⟨gb149, 2, none⟩ = some (.int .i64 a0_2) := (blk_cell BK149.out 2).trans rfl
      have hcz9_3 : w3.cell? ⟨gb149, 3, none⟩ = some (.int .i64 a0_3) := (blk_cell BK149.out 3).trans rfl
      have hfz9_0 := blk_frozen BK149.out 0
      have hfz9_1 := blk_frozen BK149.out 1
      have hfz9_2 := blk_frozen BK149.out 2
      have hfz9_3 := blk_frozen BK149.out 3
      go_wp2
      go_meet
      case rel => exact ⟨_, (true), (by first | rfl | (simp; done) | (simp [*]; done)), H', ⟨by first | omega | exact Nat.le_refl _⟩, ⟨by (with_reducible repeat (first | refine blk_drewN ?_ _ | refine blk_drew ?_ | refine blk_alloc ?_ _)); exact BK149.out⟩, ⟨by repeat (first | (with_reducible first | exact HB.out | apply below_alloc | apply pw_below_drewN | apply below_drew1 | refine below_set ?_ GE149.out) | exact HB.out)⟩⟩
     ·rw [if_neg c8] at H
      have c8b0 : decide (1000 < (a0_1.size : Int)) = false := decide_eq_false c8
      have c8b1 : decide (1000 < a0_1.size) = false := decide_eq_false (by omega)
      clear c8
      by_cases c10 : a0_0 = 4
      ·rw [if_pos c10] at H
       have c10b0 : (a0_0 == 4) = true := beq_iff_eq.mpr c10
       have c10b1 : (a0_0 != 4) = false := bne_eq_false_iff_eq.mpr c10
       clear c10
       by_cases c11 : a0_2 < (-999999999999999999)
       ·rw [if_pos c11] at H
        have c11b0 : decide (a0_2 < (-999999999999999999)) = true := decide_eq_true c11
        clear c11
        have H' := Aside0.mk H
        clear H
        have hcz12_0 : w3.cell? ⟨gb149, 0, none⟩ = some (.int .i64 a0_0) := (blk_cell BK149.out 0).trans rfl
        have hcz12_1 : w3.cell? ⟨gb149, 1, none⟩ = some (.string a0_1) := (blk_cell BK149.out 1).trans rfl
        have hcz12_2 : w3.cell? ⟨gb149, 2, none⟩ = some (.int .i64 a0_2) := (blk_cell BK149.out 2).trans rfl
        have hcz12_3 : w3.cell? ⟨gb149, 3, none⟩ = some (.int .i64 a0_3) := (blk_cell BK149.out 3).trans rfl
        have hfz12_0 := blk_frozen BK149.out 0
        have hfz12_1 := blk_frozen BK149.out 1
        have hfz12_2 := blk_frozen BK149.out 2
        have hfz12_3 := blk_frozen BK149.out 3
        go_wp2
        go_meet
        case rel => exact ⟨_, (true), (by first | rfl | (simp; done) | (simp [*]; done)), H', ⟨by first | omega | exact Nat.le_refl _⟩, ⟨by (with_reducible repeat (first | refine blk_drewN ?_ _ | refine blk_drew ?_ | refine blk_alloc ?_ _)); exact BK149.out⟩, ⟨by repeat (first | (with_reducible first | exact HB.out | apply below_alloc | apply pw_below_drewN | apply below_drew1 | refine below_set ?_ GE149.out) | exact HB.out)⟩⟩
       ·rw [if_neg c11] at H
        have c11b0 : decide (a0_2 < (-999999999999999999)) = false := decide_eq_false c11
        clear c11
        have H' := Aside0.mk H
        clear H
        have hcz13_0 : w3.cell? ⟨gb149, 0, none⟩ = some (.int .i64 a0_0) := (blk_cell BK149.out 0).trans rfl
        have hcz13_1 : w3.cell? ⟨gb149, 1, none⟩ = some (.string a0_1) := (blk_cell BK149.out 1).trans rfl
        have hcz13_2 : w3.cell? ⟨gb149, 2, none⟩ = some (.int .i64 a0_2) := (blk_cell BK149.out 2).trans rfl
        have hcz13_3 : w3.cell? ⟨gb149, 3, none⟩ = some (.int .i64 a0_3) := (blk_cell BK149.out 3).trans rfl
        have hfz13_0 := blk_frozen BK149.out 0
        have hfz13_1 := blk_frozen BK149.out 1
        have hfz13_2 := blk_frozen BK149.out 2
        have hfz13_3 := blk_frozen BK149.out 3
        go_wp2
        go_meet
        case rel => exact ⟨_, (decide (a0_2 > 999999999999999999)), (by first | rfl | (simp; done) | (simp [*]; done)), H', ⟨by first | omega | exact Nat.le_refl _⟩, ⟨by (with_reducible repeat (first | refine blk_drewN ?_ _ | refine blk_drew ?_ | refine blk_alloc ?_ _)); exact BK149.out⟩, ⟨by repeat (first | (with_reducible first | exact HB.out | apply below_alloc | apply pw_below_drewN | apply below_drew1 | refine below_set ?_ GE149.out) | exact HB.out)⟩⟩
      ·rw [if_neg c10] at H
       have c10b0 : (a0_0 == 4) = false := beq_eq_false_iff_ne.mpr c10
       have c10b1 : (a0_0 != 4) = true := bne_iff_ne.mpr c10
       have H' := Aside0.mk H
       clear H
       have hcz14_0 : w3.cell? ⟨gb149, 0, none⟩ = some (.int .i64 a0_0) := (blk_cell BK149.out 0).trans rfl
       have hcz14_1 : w3.cell? ⟨gb149, 1, none⟩ = some (.string a0_1) := (blk_cell BK149.out 1).trans rfl
       have hcz14_2 : w3.cell? ⟨gb149, 2, none⟩ = some (.int .i64 a0_2) := (blk_cell BK149.out 2).trans rfl
       have hcz14_3 : w3.cell? ⟨gb149, 3, none⟩ = some (.int .i64 a0_3) := (blk_cell BK149.out 3).trans rfl
       have hfz14_0 := blk_frozen BK149.out 0
       have hfz14_1 := blk_frozen BK149.out 1
       have hfz14_2 := blk_frozen BK149.out 2
       have hfz14_3 := blk_frozen BK149.out 3
       go_wp2
       go_meet
       case rel => exact ⟨_, (false), (by first | rfl | (simp; done) | (simp [*]; done)), H', ⟨by first | omega | exact Nat.le_refl _⟩, ⟨by (with_reducible repeat (first | refine blk_drewN ?_ _ | refine blk_drew ?_ | refine blk_alloc ?_ _)); exact BK149.out⟩, ⟨by repeat (first | (with_reducible first | exact HB.out | apply below_alloc | apply pw_below_drewN | apply below_drew1 | refine below_set ?_ GE149.out) | exact HB.out)⟩⟩
  case rest =>
   clear HC2
   try clear c1
   try clear p2
   try clear c4
   try clear c4b0
   try clear c4b2
   try clear c6
   try clear c6b0
   try clear c8
   try clear c8b0
   try clear c8b1
   try clear c10
   try clear c10b0
   try clear c10b1
   try clear c11
   try clear c11b0
   try clear c13
   try clear hcz12_0
   try clear hcz12_1
   try clear hcz12_2
   try clear hcz12_3
   try clear hcz13_0
   try clear hcz13_1
   try clear hcz13_2
   try clear hcz13_3
   try clear hcz14_0
   try clear hcz14_1
   try clear hcz14_2
   try clear hcz14_3
   try clear hcz5_0
   try clear hcz5_1
   try clear hcz5_2
   try clear hcz5_3
   try clear hcz7_0
   try clear hcz7_1
   try clear hcz7_2
   try clear hcz7_3
   try clear hcz9_0
   try clear hcz9_1
   try clear hcz9_2
   try clear hcz9_3
   try clear hfz12_0
   try clear hfz12_1
   try clear hfz12_2
   try clear hfz12_3
   try clear hfz13_0
   try clear hfz13_1
   try clear hfz13_2
   try clear hfz13_3
   try clear hfz14_0
   try clear hfz14_1
   try clear hfz14_2
   try clear hfz14_3
   try clear hfz5_0
   try clear hfz5_1
   try clear hfz5_2
   try clear hfz5_3
   try clear hfz7_0
   try clear hfz7_1
   try clear hfz7_2
   try clear hfz7_3
   try clear hfz9_0
   try clear hfz9_1
   try clear hfz9_2
   try clear hfz9_3
   obtain ⟨kq, x34_1, rfl, HA, HJ1, BK149, HB⟩ := hcut
   cases kq with
   | zero => exact absurd HA.out (by simp [touchstoneref06_Right.j0])
   | succ kj1 =>
    have H := HA.out
    clear HA
    simp only [touchstoneref06_Right.j0] at H
    by_cases c15 : x34_1 = true
    ·subst c15
     have H1 : (some false) = some r := by rw [if_pos rfl] at H; exact H
     clear H
     have H := H1
     clear H1
     obtain rfl := Option.some.inj H
     go_wp2
     go_ret
     exact ⟨by first | rfl | (simp [errW_none, errW_some] <;> rfl) | (simp [*, errW_none, errW_some] <;> rfl), by repeat (first | (with_reducible first | exact HB.out | apply below_alloc | apply pw_below_drewN | apply below_drew1 | refine below_set ?_ GE149.out) | exact HB.out)⟩
    ·replace c15 := Bool.eq_false_iff.mpr c15
     subst c15
     have H1 : ((touchstoneref06_Told.f kj1 a0_0 a0_1 a0_2 a0_3).bind fun t150 => (if t150.toList = ([] : List UInt8) then (some false) else ((touchstoneref06_One.f t150 0).bind fun bt151 => (if bt151.2.2.2.2 = (t150.size : Int) then (if bt151.1 = a0_0 then (if bt151.2.1.toList = a0_1.toList then (some (bt151.2.2.1 == a0_2)) else (some false)) else (some false)) else (some false))))) = some r := by rw [if_neg (show ¬ (false = true) by decide)] at H; exact H
     clear H
     have H := H1
     clear H1
     replace H := Option.bind_eq_some_iff.mp H
     obtain ⟨t150, A160, H⟩ := H
     replace H : (if t150.toList = ([] : List UInt8) then (some false) else ((touchstoneref06_One.f t150 0).bind fun bt151 => (if bt151.2.2.2.2 = (t150.size : Int) then (if bt151.1 = a0_0 then (if bt151.2.1.toList = a0_1.toList then (some (bt151.2.2.1 == a0_2)) else (some false)) else (some false)) else (some false)))) = some r := H
     have A16 := Aside0.mk A160
     clear A160
     by_cases c17 : t150.toList = ([] : List UInt8)
     ·rw [if_pos c17] at H
      have c17b0 : (t150.toList == ([] : List UInt8)) = true := beq_iff_eq.mpr c17
      have c17b1 : (t150.toList != ([] : List UInt8)) = false := bne_eq_false_iff_eq.mpr c17
      clear c17
      obtain rfl := Option.some.inj H
      have hcz18_0 : wc.cell? ⟨gb149, 0, none⟩ = some (.int .i64 a0_0) := (blk_cell BK149.out 0).trans rfl
      have hcz18_1 : wc.cell? ⟨gb149, 1, none⟩ = some (.string a0_1) := (blk_cell BK149.out 1).trans rfl
      have hcz18_2 : wc.cell? ⟨gb149, 2, none⟩ = some (.int .i64 a0_2) := (blk_cell BK149.out 2).trans rfl
      have hcz18_3 : wc.cell? ⟨gb149, 3, none⟩ = some (.int .i64 a0_3) := (blk_cell BK149.out 3).trans rfl
      have hfz18_0 := blk_frozen BK149.out 0
      have hfz18_1 := blk_frozen BK149.out 1
      have hfz18_2 := blk_frozen BK149.out 2
      have hfz18_3 := blk_frozen BK149.out 3
      go_wp2_with (first | ((with_reducible refine gate_callee (f := 30) rfl ?_); refine goesL_ (some 36) rfl rfl Tryz.func30 (by kernel_rfl) rfl #[.agg #[.int .i64 a0_0, .string a0_1, .int .i64 a0_2, .int .i64 a0_3]] rfl (by (try simp only [List.map_toArray, List.map_cons, List.map_nil]); first | done | rfl | (simp only [List.length_drop, List.length_take]; rfl)) ?_; (with_reducible refine (touchstoneref06_Told.calls kj1 a0_0 a0_1 a0_2 a0_3 t150 _ A16.out).mono ?_); rintro e w19 ⟨rfl, hb⟩; refine ⟨_, rfl, ?_⟩; have n0_ := Aside0.mk (blk_below (g := gb149) (o := .cells #[.int .i64 a0_0, .string a0_1, .int .i64 a0_2, .int .i64 a0_3] 32 (0, 0)) (by (with_reducible repeat (first | refine blk_drewN ?_ _ | refine blk_drew ?_ | refine blk_alloc ?_ _)); exact BK149.out) hb); have n1_ := Aside0.mk (below_step (by repeat (first | (with_reducible first | exact HB.out | apply below_alloc | apply pw_below_drewN | apply below_drew1 | refine below_set ?_ GE149.out) | exact HB.out)) hb); clear BK149; clear HB; have BK149 := n0_; have HB := n1_; clear n0_ n1_; (try clear hb); (try clear hb2); (try clear hk); (try clear hi)))
      go_ret
      exact ⟨by first | rfl | (simp [errW_none, errW_some] <;> rfl) | (simp [*, errW_none, errW_some] <;> rfl), by repeat (first | (with_reducible first | exact HB.out | apply below_alloc | apply pw_below_drewN | apply below_drew1 | refine below_set ?_ GE149.out) | exact HB.out)⟩
     ·rw [if_neg c17] at H
      have c17b0 : (t150.toList == ([] : List UInt8)) = false := beq_eq_false_iff_ne.mpr c17
      have c17b1 : (t150.toList != ([] : List UInt8)) = true := bne_iff_ne.mpr c17
      replace H := Option.bind_eq_some_iff.mp H
      obtain ⟨⟨t151, t152, t153, t154, t155⟩, A200, H⟩ := H
      replace H : (if t155 = (t150.size : Int) then (if t151 = a0_0 then (if t152.toList = a0_1.toList then (some (t153 == a0_2)) else (some false)) else (some false)) else (some false)) = some r := H
      have A20 := Aside0.mk A200
      clear A200
      by_cases c21 : t155 = (t150.size : Int)
      ·rw [if_pos c21] at H
       have c21b0 : (t155 == (t150.size : Int)) = true := beq_iff_eq.mpr c21
       have c21b1 : (t155 != (t150.size : Int)) = false := bne_eq_false_iff_eq.mpr c21
       clear c21
       by_cases c22 : t151 = a0_0
       ·rw [if_pos c22] at H
        have c22b0 : (t151 == a0_0) = true := beq_iff_eq.mpr c22
        have c22b1 : (t151 != a0_0) = false := bne_eq_false_iff_eq.mpr c22
        clear c22
        by_cases c23 : t152.toList = a0_1.toList
        ·rw [if_pos c23] at H
         have c23b0 : (t152.toList == a0_1.toList) = true := beq_iff_eq.mpr c23
         have c23b1 : (t152.toList != a0_1.toList) = false := bne_eq_false_iff_eq.mpr c23
         clear c23
         obtain rfl := Option.some.inj H
         have hcz24_0 : wc.cell? ⟨gb149, 0, none⟩ = some (.int .i64 a0_0) := (blk_cell BK149.out 0).trans rfl
         have hcz24_1 : wc.cell? ⟨gb149, 1, none⟩ = some (.string a0_1) := (blk_cell BK149.out 1).trans rfl
         have hcz24_2 : wc.cell? ⟨gb149, 2, none⟩ = some (.int .i64 a0_2) := (blk_cell BK149.out 2).trans rfl
         have hcz24_3 : wc.cell? ⟨gb149, 3, none⟩ = some (.int .i64 a0_3) := (blk_cell BK149.out 3).trans rfl
         have hfz24_0 := blk_frozen BK149.out 0
         have hfz24_1 := blk_frozen BK149.out 1
         have hfz24_2 := blk_frozen BK149.out 2
         have hfz24_3 := blk_frozen BK149.out 3
         go_wp2_with (first | ((with_reducible refine gate_callee (f := 30) rfl ?_); refine goesL_ (some 36) rfl rfl Tryz.func30 (by kernel_rfl) rfl #[.agg #[.int .i64 a0_0, .string a0_1, .int .i64 a0_2, .int .i64 a0_3]] rfl (by (try simp only [List.map_toArray, List.map_cons, List.map_nil]); first | done | rfl | (simp only [List.length_drop, List.length_take]; rfl)) ?_; (with_reducible refine (touchstoneref06_Told.calls kj1 a0_0 a0_1 a0_2 a0_3 t150 _ A16.out).mono ?_); rintro e w25 ⟨rfl, hb⟩; refine ⟨_, rfl, ?_⟩; have n0_ := Aside0.mk (blk_below (g := gb149) (o := .cells #[.int .i64 a0_0, .string a0_1, .int .i64 a0_2, .int .i64 a0_3] 32 (0, 0)) (by (with_reducible repeat (first | refine blk_drewN ?_ _ | refine blk_drew ?_ | refine blk_alloc ?_ _)); exact BK149.out) hb); have n1_ := Aside0.mk (below_step (by repeat (first | (with_reducible first | exact HB.out | apply below_alloc | apply pw_below_drewN | apply below_drew1 | refine below_set ?_ GE149.out) | exact HB.out)) hb); clear BK149; clear HB; have BK149 := n0_; have HB := n1_; clear n0_ n1_; (try clear hb); (try clear hb2); (try clear hk); (try clear hi)) | ((with_reducible refine gate_callee (f := 32) rfl ?_); refine goesL_ (some 41) rfl rfl Tryz.func32 (by kernel_rfl) rfl #[.string t150, .int .i64 0] rfl (by (try simp only [List.map_toArray, List.map_cons, List.map_nil]); first | done | rfl | (simp only [List.length_drop, List.length_take]; rfl)) ?_; (with_reducible refine (touchstoneref06_One.calls t150 0 t151 t152 t153 t154 t155 _ A20.out).mono ?_); rintro e w26 ⟨rfl, hb⟩; refine ⟨_, rfl, ?_⟩; have n0_ := Aside0.mk (blk_below (g := gb149) (o := .cells #[.int .i64 a0_0, .string a0_1, .int .i64 a0_2, .int .i64 a0_3] 32 (0, 0)) (by (with_reducible repeat (first | refine blk_drewN ?_ _ | refine blk_drew ?_ | refine blk_alloc ?_ _)); exact BK149.out) hb); have n1_ := Aside0.mk (below_step (by repeat (first | (with_reducible first | exact HB.out | apply below_alloc | apply pw_below_drewN | apply below_drew1 | refine below_set ?_ GE149.out) | exact HB.out)) hb); clear BK149; clear HB; have BK149 := n0_; have HB := n1_; clear n0_ n1_; (try clear hb); (try clear hb2); (try clear hk); (try clear hi)) | ((with_reducible refine gate_dst (N := 4) rfl ?_); (try (refine gate_guard (by rfl) ?_; dsimp only)); refine box_event ?hg (N := 4) ?hd (cs := #[.int .i64 0, .string (⟨#[]⟩ : ByteArray), .int .i64 0, .int .i64 0]) (t := 32) ?hr ?_; (case hd => rfl); (case hg => rfl); (case hr => first | (go_simp; done) | (go_simp; rfl)); intro gb156 hg w27 hbox hb; have n0_ := Aside0.mk (blk_below (g := gb149) (o := .cells #[.int .i64 a0_0, .string a0_1, .int .i64 a0_2, .int .i64 a0_3] 32 (0, 0)) (by (with_reducible repeat (first | refine blk_drewN ?_ _ | refine blk_drew ?_ | refine blk_alloc ?_ _)); exact BK149.out) hb); have n1_ := Aside0.mk (below_step (by repeat (first | (with_reducible first | exact HB.out | apply below_alloc | apply pw_below_drewN | apply below_drew1 | refine below_set ?_ GE149.out) | exact HB.out)) hb); have n2_ := Aside0.mk (hbox); have n3_ := Aside0.mk ((by rw [hg]; exact (below_size (by repeat (first | (with_reducible first | exact HB.out | apply below_alloc | apply pw_below_drewN | apply below_drew1 | refine below_set ?_ GE149.out) | exact HB.out))) : w.heap.size ≤ gb156)); have n4_ := Aside0.mk ((by rw [hg]; exact (below_size (by repeat (first | (with_reducible first | exact HB.out | apply below_alloc | apply pw_below_drewN | apply below_drew1 | refine below_set ?_ GE149.out) | exact HB.out))) : w.heap.size ≤ gb156)); have n5_ := Aside0.mk ((by rw [hg]; exact Nat.ne_of_lt (blk_lt (g := gb149) (o := .cells #[.int .i64 a0_0, .string a0_1, .int .i64 a0_2, .int .i64 a0_3] 32 (0, 0)) (by (with_reducible repeat (first | refine blk_drewN ?_ _ | refine blk_drew ?_ | refine blk_alloc ?_ _)); exact BK149.out)) : gb149 ≠ gb156)); have n6_ := Aside0.mk ((by rw [hg]; exact Nat.ne_of_gt (blk_lt (g := gb149) (o := .cells #[.int .i64 a0_0, .string a0_1, .int .i64 a0_2, .int .i64 a0_3] 32 (0, 0)) (by (with_reducible repeat (first | refine blk_drewN ?_ _ | refine blk_drew ?_ | refine blk_alloc ?_ _)); exact BK149.out)) : gb156 ≠ gb149)); clear BK149; clear HB; have BK149 := n0_; have HB := n1_; have BK156 := n2_; have GW156 := n3_; have GE156 := n4_; have NB149_156 := n5_; have NB156_149 := n6_; clear n0_ n1_ n2_ n3_ n4_ n5_ n6_; clear hb hbox hg; have hnb28 := NB156_149.out; have hnc28 := NB149_156.out; have hcz29_0 : w27.cell? ⟨gb156, 0, none⟩ = some (.int .i64 0) := (blk_cell BK156.out 0).trans rfl; have hcz29_1 : w27.cell? ⟨gb156, 1, none⟩ = some (.string (⟨#[]⟩ : ByteArray)) := (blk_cell BK156.out 1).trans rfl; have hcz29_2 : w27.cell? ⟨gb156, 2, none⟩ = some (.int .i64 0) := (blk_cell BK156.out 2).trans rfl; have hcz29_3 : w27.cell? ⟨gb156, 3, none⟩ = some (.int .i64 0) := (blk_cell BK156.out 3).trans rfl; have hfz29_0 := blk_frozen BK156.out 0; have hfz29_1 := blk_frozen BK156.out 1; have hfz29_2 := blk_frozen BK156.out 2; have hfz29_3 := blk_frozen BK156.out 3; have hcz30_0 : w27.cell? ⟨gb149, 0, none⟩ = some (.int .i64 a0_0) := (blk_cell BK149.out 0).trans rfl; have hcz30_1 : w27.cell? ⟨gb149, 1, none⟩ = some (.string a0_1) := (blk_cell BK149.out 1).trans rfl; have hcz30_2 : w27.cell? ⟨gb149, 2, none⟩ = some (.int .i64 a0_2) := (blk_cell BK149.out 2).trans rfl; have hcz30_3 : w27.cell? ⟨gb149, 3, none⟩ = some (.int .i64 a0_3) := (blk_cell BK149.out 3).trans rfl; have hfz30_0 := blk_frozen BK149.out 0; have hfz30_1 := blk_frozen BK149.out 1; have hfz30_2 := blk_frozen BK149.out 2; have hfz30_3 := blk_frozen BK149.out 3))
         go_ret
         exact ⟨by first | rfl | (simp [errW_none, errW_some] <;> rfl) | (simp [*, errW_none, errW_some] <;> rfl), by repeat (first | (with_reducible first | exact HB.out | apply below_alloc | apply pw_below_drewN | apply below_drew1 | refine below_set ?_ GE149.out | refine below_set ?_ GE156.out) | exact HB.out)⟩
        ·rw [if_neg c23] at H
         have c23b0 : (t152.toList == a0_1.toList) = false := beq_eq_false_iff_ne.mpr c23
         have c23b1 : (t152.toList != a0_1.toList) = true := bne_iff_ne.mpr c23
         obtain rfl := Option.some.inj H
         have hcz31_0 : wc.cell? ⟨gb149, 0, none⟩ = some (.int .i64 a0_0) := (blk_cell BK149.out 0).trans rfl
         have hcz31_1 : wc.cell? ⟨gb149, 1, none⟩ = some (.string a0_1) := (blk_cell BK149.out 1).trans rfl
         have hcz31_2 : wc.cell? ⟨gb149, 2, none⟩ = some (.int .i64 a0_2) := (blk_cell BK149.out 2).trans rfl
         have hcz31_3 : wc.cell? ⟨gb149, 3, none⟩ = some (.int .i64 a0_3) := (blk_cell BK149.out 3).trans rfl
         have hfz31_0 := blk_frozen BK149.out 0
         have hfz31_1 := blk_frozen BK149.out 1
         have hfz31_2 := blk_frozen BK149.out 2
         have hfz31_3 := blk_frozen BK149.out 3
         go_wp2_with (first | ((with_reducible refine gate_callee (f := 30) rfl ?_); refine goesL_ (some 36) rfl rfl Tryz.func30 (by kernel_rfl) rfl #[.agg #[.int .i64 a0_0, .string a0_1, .int .i64 a0_2, .int .i64 a0_3]] rfl (by (try simp only [List.map_toArray, List.map_cons, List.map_nil]); first | done | rfl | (simp only [List.length_drop, List.length_take]; rfl)) ?_; (with_reducible refine (touchstoneref06_Told.calls kj1 a0_0 a0_1 a0_2 a0_3 t150 _ A16.out).mono ?_); rintro e w32 ⟨rfl, hb⟩; refine ⟨_, rfl, ?_⟩; have n0_ := Aside0.mk (blk_below (g := gb149) (o := .cells #[.int .i64 a0_0, .string a0_1, .int .i64 a0_2, .int .i64 a0_3] 32 (0, 0)) (by (with_reducible repeat (first | refine blk_drewN ?_ _ | refine blk_drew ?_ | refine blk_alloc ?_ _)); exact BK149.out) hb); have n1_ := Aside0.mk (below_step (by repeat (first | (with_reducible first | exact HB.out | apply below_alloc | apply pw_below_drewN | apply below_drew1 | refine below_set ?_ GE149.out) | exact HB.out)) hb); clear BK149; clear HB; have BK149 := n0_; have HB := n1_; clear n0_ n1_; (try clear hb); (try clear hb2); (try clear hk); (try clear hi)) | ((with_reducible refine gate_callee (f := 32) rfl ?_); refine goesL_ (some 41) rfl rfl Tryz.func32 (by kernel_rfl) rfl #[.string t150, .int .i64 0] rfl (by (try simp only [List.map_toArray, List.map_cons, List.map_nil]); first | done | rfl | (simp only [List.length_drop, List.length_take]; rfl)) ?_; (with_reducible refine (touchstoneref06_One.calls t150 0 t151 t152 t153 t154 t155 _ A20.out).mono ?_); rintro e w33 ⟨rfl, hb⟩; refine ⟨_, rfl, ?_⟩; have n0_ := Aside0.mk (blk_below (g := gb149) (o := .cells #[.int .i64 a0_0, .string a0_1, .int .i64 a0_2, .int .i64 a0_3] 32 (0, 0)) (by (with_reducible repeat (first | refine blk_drewN ?_ _ | refine blk_drew ?_ | refine blk_alloc ?_ _)); exact BK149.out) hb); have n1_ := Aside0.mk (below_step (by repeat (first | (with_reducible first | exact HB.out | apply below_alloc | apply pw_below_drewN | apply below_drew1 | refine below_set ?_ GE149.out) | exact HB.out)) hb); clear BK149; clear HB; have BK149 := n0_; have HB := n1_; clear n0_ n1_; (try clear hb); (try clear hb2); (try clear hk); (try clear hi)) | ((with_reducible refine gate_dst (N := 4) rfl ?_); (try (refine gate_guard (by rfl) ?_; dsimp only)); refine box_event ?hg (N := 4) ?hd (cs := #[.int .i64 0, .string (⟨#[]⟩ : ByteArray), .int .i64 0, .int .i64 0]) (t := 32) ?hr ?_; (case hd => rfl); (case hg => rfl); (case hr => first | (go_simp; done) | (go_simp; rfl)); intro gb156 hg w34 hbox hb; have n0_ := Aside0.mk (blk_below (g := gb149) (o := .cells #[.int .i64 a0_0, .string a0_1, .int .i64 a0_2, .int .i64 a0_3] 32 (0, 0)) (by (with_reducible repeat (first | refine blk_drewN ?_ _ | refine blk_drew ?_ | refine blk_alloc ?_ _)); exact BK149.out) hb); have n1_ := Aside0.mk (below_step (by repeat (first | (with_reducible first | exact HB.out | apply below_alloc | apply pw_below_drewN | apply below_drew1 | refine below_set ?_ GE149.out) | exact HB.out)) hb); have n2_ := Aside0.mk (hbox); have n3_ := Aside0.mk ((by rw [hg]; exact (below_size (by repeat (first | (with_reducible first | exact HB.out | apply below_alloc | apply pw_below_drewN | apply below_drew1 | refine below_set ?_ GE149.out) | exact HB.out))) : w.heap.size ≤ gb156)); have n4_ := Aside0.mk ((by rw [hg]; exact (below_size (by repeat (first | (with_reducible first | exact HB.out | apply below_alloc | apply pw_below_drewN | apply below_drew1 | refine below_set ?_ GE149.out) | exact HB.out))) : w.heap.size ≤ gb156)); have n5_ := Aside0.mk ((by rw [hg]; exact Nat.ne_of_lt (blk_lt (g := gb149) (o := .cells #[.int .i64 a0_0, .string a0_1, .int .i64 a0_2, .int .i64 a0_3] 32 (0, 0)) (by (with_reducible repeat (first | refine blk_drewN ?_ _ | refine blk_drew ?_ | refine blk_alloc ?_ _)); exact BK149.out)) : gb149 ≠ gb156)); have n6_ := Aside0.mk ((by rw [hg]; exact Nat.ne_of_gt (blk_lt (g := gb149) (o := .cells #[.int .i64 a0_0, .string a0_1, .int .i64 a0_2, .int .i64 a0_3] 32 (0, 0)) (by (with_reducible repeat (first | refine blk_drewN ?_ _ | refine blk_drew ?_ | refine blk_alloc ?_ _)); exact BK149.out)) : gb156 ≠ gb149)); clear BK149; clear HB; have BK149 := n0_; have HB := n1_; have BK156 := n2_; have GW156 := n3_; have GE156 := n4_; have NB149_156 := n5_; have NB156_149 := n6_; clear n0_ n1_ n2_ n3_ n4_ n5_ n6_; clear hb hbox hg; have hnb35 := NB156_149.out; have hnc35 := NB149_156.out; have hcz36_0 : w34.cell? ⟨gb156, 0, none⟩ = some (.int .i64 0) := (blk_cell BK156.out 0).trans rfl; have hcz36_1 : w34.cell? ⟨gb156, 1, none⟩ = some (.string (⟨#[]⟩ : ByteArray)) := (blk_cell BK156.out 1).trans rfl; have hcz36_2 : w34.cell? ⟨gb156, 2, none⟩ = some (.int .i64 0) := (blk_cell BK156.out 2).trans rfl; have hcz36_3 : w34.cell? ⟨gb156, 3, none⟩ = some (.int .i64 0) := (blk_cell BK156.out 3).trans rfl; have hfz36_0 := blk_frozen BK156.out 0; have hfz36_1 := blk_frozen BK156.out 1; have hfz36_2 := blk_frozen BK156.out 2; have hfz36_3 := blk_frozen BK156.out 3; have hcz37_0 : w34.cell? ⟨gb149, 0, none⟩ = some (.int .i64 a0_0) := (blk_cell BK149.out 0).trans rfl; have hcz37_1 : w34.cell? ⟨gb149, 1, none⟩ = some (.string a0_1) := (blk_cell BK149.out 1).trans rfl; have hcz37_2 : w34.cell? ⟨gb149, 2, none⟩ = some (.int .i64 a0_2) := (blk_cell BK149.out 2).trans rfl; have hcz37_3 : w34.cell? ⟨gb149, 3, none⟩ = some (.int .i64 a0_3) := (blk_cell BK149.out 3).trans rfl; have hfz37_0 := blk_frozen BK149.out 0; have hfz37_1 := blk_frozen BK149.out 1; have hfz37_2 := blk_frozen BK149.out 2; have hfz37_3 := blk_frozen BK149.out 3))
         go_ret
         exact ⟨by first | rfl | (simp [errW_none, errW_some] <;> rfl) | (simp [*, errW_none, errW_some] <;> rfl), by repeat (first | (with_reducible first | exact HB.out | apply below_alloc | apply pw_below_drewN | apply below_drew1 | refine below_set ?_ GE149.out | refine below_set ?_ GE156.out) | exact HB.out)⟩
       ·rw [if_neg c22] at H
        have c22b0 : (t151 == a0_0) = false := beq_eq_false_iff_ne.mpr c22
        have c22b1 : (t151 != a0_0) = true := bne_iff_ne.mpr c22
        obtain rfl := Option.some.inj H
        have hcz38_0 : wc.cell? ⟨gb149, 0, none⟩ = some (.int .i64 a0_0) := (blk_cell BK149.out 0).trans rfl
        have hcz38_1 : wc.cell? ⟨gb149, 1, none⟩ = some (.string a0_1) := (blk_cell BK149.out 1).trans rfl
        have hcz38_2 : wc.cell? ⟨gb149, 2, none⟩ = some (.int .i64 a0_2) := (blk_cell BK149.out 2).trans rfl
        have hcz38_3 : wc.cell? ⟨gb149, 3, none⟩ = some (.int .i64 a0_3) := (blk_cell BK149.out 3).trans rfl
        have hfz38_0 := blk_frozen BK149.out 0
        have hfz38_1 := blk_frozen BK149.out 1
        have hfz38_2 := blk_frozen BK149.out 2
        have hfz38_3 := blk_frozen BK149.out 3
        go_wp2_with (first | ((with_reducible refine gate_callee (f := 30) rfl ?_); refine goesL_ (some 36) rfl rfl Tryz.func30 (by kernel_rfl) rfl #[.agg #[.int .i64 a0_0, .string a0_1, .int .i64 a0_2, .int .i64 a0_3]] rfl (by (try simp only [List.map_toArray, List.map_cons, List.map_nil]); first | done | rfl | (simp only [List.length_drop, List.length_take]; rfl)) ?_; (with_reducible refine (touchstoneref06_Told.calls kj1 a0_0 a0_1 a0_2 a0_3 t150 _ A16.out).mono ?_); rintro e w39 ⟨rfl, hb⟩; refine ⟨_, rfl, ?_⟩; have n0_ := Aside0.mk (blk_below (g := gb149) (o := .cells #[.int .i64 a0_0, .string a0_1, .int .i64 a0_2, .int .i64 a0_3] 32 (0, 0)) (by (with_reducible repeat (first | refine blk_drewN ?_ _ | refine blk_drew ?_ | refine blk_alloc ?_ _)); exact BK149.out) hb); have n1_ := Aside0.mk (below_step (by repeat (first | (with_reducible first | exact HB.out | apply below_alloc | apply pw_below_drewN | apply below_drew1 | refine below_set ?_ GE149.out) | exact HB.out)) hb); clear BK149; clear HB; have BK149 := n0_; have HB := n1_; clear n0_ n1_; (try clear hb); (try clear hb2); (try clear hk); (try clear hi)) | ((with_reducible refine gate_callee (f := 32) rfl ?_); refine goesL_ (some 41) rfl rfl Tryz.func32 (by kernel_rfl) rfl #[.string t150, .int .i64 0] rfl (by (try simp only [List.map_toArray, List.map_cons, List.map_nil]); first | done | rfl | (simp only [List.length_drop, List.length_take]; rfl)) ?_; (with_reducible refine (touchstoneref06_One.calls t150 0 t151 t152 t153 t154 t155 _ A20.out).mono ?_); rintro e w40 ⟨rfl, hb⟩; refine ⟨_, rfl, ?_⟩; have n0_ := Aside0.mk (blk_below (g := gb149) (o := .cells #[.int .i64 a0_0, .string a0_1, .int .i64 a0_2, .int .i64 a0_3] 32 (0, 0)) (by (with_reducible repeat (first | refine blk_drewN ?_ _ | refine blk_drew ?_ | refine blk_alloc ?_ _)); exact BK149.out) hb); have n1_ := Aside0.mk (below_step (by repeat (first | (with_reducible first | exact HB.out | apply below_alloc | apply pw_below_drewN | apply below_drew1 | refine below_set ?_ GE149.out) | exact HB.out)) hb); clear BK149; clear HB; have BK149 := n0_; have HB := n1_; clear n0_ n1_; (try clear hb); (try clear hb2); (try clear hk); (try clear hi)) | ((with_reducible refine gate_dst (N := 4) rfl ?_); (try (refine gate_guard (by rfl) ?_; dsimp only)); refine box_event ?hg (N := 4) ?hd (cs := #[.int .i64 0, .string (⟨#[]⟩ : ByteArray), .int .i64 0, .int .i64 0]) (t := 32) ?hr ?_; (case hd => rfl); (case hg => rfl); (case hr => first | (go_simp; done) | (go_simp; rfl)); intro gb156 hg w41 hbox hb; have n0_ := Aside0.mk (blk_below (g := gb149) (o := .cells #[.int .i64 a0_0, .string a0_1, .int .i64 a0_2, .int .i64 a0_3] 32 (0, 0)) (by (with_reducible repeat (first | refine blk_drewN ?_ _ | refine blk_drew ?_ | refine blk_alloc ?_ _)); exact BK149.out) hb); have n1_ := Aside0.mk (below_step (by repeat (first | (with_reducible first | exact HB.out | apply below_alloc | apply pw_below_drewN | apply below_drew1 | refine below_set ?_ GE149.out) | exact HB.out)) hb); have n2_ := Aside0.mk (hbox); have n3_ := Aside0.mk ((by rw [hg]; exact (below_size (by repeat (first | (with_reducible first | exact HB.out | apply below_alloc | apply pw_below_drewN | apply below_drew1 | refine below_set ?_ GE149.out) | exact HB.out))) : w.heap.size ≤ gb156)); have n4_ := Aside0.mk ((by rw [hg]; exact (below_size (by repeat (first | (with_reducible first | exact HB.out | apply below_alloc | apply pw_below_drewN | apply below_drew1 | refine below_set ?_ GE149.out) | exact HB.out))) : w.heap.size ≤ gb156)); have n5_ := Aside0.mk ((by rw [hg]; exact Nat.ne_of_lt (blk_lt (g := gb149) (o := .cells #[.int .i64 a0_0, .string a0_1, .int .i64 a0_2, .int .i64 a0_3] 32 (0, 0)) (by (with_reducible repeat (first | refine blk_drewN ?_ _ | refine blk_drew ?_ | refine blk_alloc ?_ _)); exact BK149.out)) : gb149 ≠ gb156)); have n6_ := Aside0.mk ((by rw [hg]; exact Nat.ne_of_gt (blk_lt (g := gb149) (o := .cells #[.int .i64 a0_0, .string a0_1, .int .i64 a0_2, .int .i64 a0_3] 32 (0, 0)) (by (with_reducible repeat (first | refine blk_drewN ?_ _ | refine blk_drew ?_ | refine blk_alloc ?_ _)); exact BK149.out)) : gb156 ≠ gb149)); clear BK149; clear HB; have BK149 := n0_; have HB := n1_; have BK156 := n2_; have GW156 := n3_; have GE156 := n4_; have NB149_156 := n5_; have NB156_149 := n6_; clear n0_ n1_ n2_ n3_ n4_ n5_ n6_; clear hb hbox hg; have hnb42 := NB156_149.out; have hnc42 := NB149_156.out; have hcz43_0 : w41.cell? ⟨gb156, 0, none⟩ = some (.int .i64 0) := (blk_cell BK156.out 0).trans rfl; have hcz43_1 : w41.cell? ⟨gb156, 1, none⟩ = some (.string (⟨#[]⟩ : ByteArray)) := (blk_cell BK156.out 1).trans rfl; have hcz43_2 : w41.cell? ⟨gb156, 2, none⟩ = some (.int .i64 0) := (blk_cell BK156.out 2).trans rfl; have hcz43_3 : w41.cell? ⟨gb156, 3, none⟩ = some (.int .i64 0) := (blk_cell BK156.out 3).trans rfl; have hfz43_0 := blk_frozen BK156.out 0; have hfz43_1 := blk_frozen BK156.out 1; have hfz43_2 := blk_frozen BK156.out 2; have hfz43_3 := blk_frozen BK156.out 3; have hcz44_0 : w41.cell? ⟨gb149, 0, none⟩ = some (.int .i64 a0_0) := (blk_cell BK149.out 0).trans rfl; have hcz44_1 : w41.cell? ⟨gb149, 1, none⟩ = some (.string a0_1) := (blk_cell BK149.out 1).trans rfl; have hcz44_2 : w41.cell? ⟨gb149, 2, none⟩ = some (.int .i64 a0_2) := (blk_cell BK149.out 2).trans rfl; have hcz44_3 : w41.cell? ⟨gb149, 3, none⟩ = some (.int .i64 a0_3) := (blk_cell BK149.out 3).trans rfl; have hfz44_0 := blk_frozen BK149.out 0; have hfz44_1 := blk_frozen BK149.out 1; have hfz44_2 := blk_frozen BK149.out 2; have hfz44_3 := blk_frozen BK149.out 3))
        go_ret
        exact ⟨by first | rfl | (simp [errW_none, errW_some] <;> rfl) | (simp [*, errW_none, errW_some] <;> rfl), by repeat (first | (with_reducible first | exact HB.out | apply below_alloc | apply pw_below_drewN | apply below_drew1 | refine below_set ?_ GE149.out | refine below_set ?_ GE156.out) | exact HB.out)⟩
      ·rw [if_neg c21] at H
       have c21b0 : (t155 == (t150.size : Int)) = false := beq_eq_false_iff_ne.mpr c21
       have c21b1 : (t155 != (t150.size : Int)) = true := bne_iff_ne.mpr c21
       obtain rfl := Option.some.inj H
       have hcz45_0 : wc.cell? ⟨gb149, 0, none⟩ = some (.int .i64 a0_0) := (blk_cell BK149.out 0).trans rfl
       have hcz45_1 : wc.cell? ⟨gb149, 1, none⟩ = some (.string a0_1) := (blk_cell BK149.out 1).trans rfl
       have hcz45_2 : wc.cell? ⟨gb149, 2, none⟩ = some (.int .i64 a0_2) := (blk_cell BK149.out 2).trans rfl
       have hcz45_3 : wc.cell? ⟨gb149, 3, none⟩ = some (.int .i64 a0_3) := (blk_cell BK149.out 3).trans rfl
       have hfz45_0 := blk_frozen BK149.out 0
       have hfz45_1 := blk_frozen BK149.out 1
       have hfz45_2 := blk_frozen BK149.out 2
       have hfz45_3 := blk_frozen BK149.out 3
       go_wp2_with (first | ((with_reducible refine gate_callee (f := 30) rfl ?_); refine goesL_ (some 36) rfl rfl Tryz.func30 (by kernel_rfl) rfl #[.agg #[.int .i64 a0_0, .string a0_1, .int .i64 a0_2, .int .i64 a0_3]] rfl (by (try simp only [List.map_toArray, List.map_cons, List.map_nil]); first | done | rfl | (simp only [List.length_drop, List.length_take]; rfl)) ?_; (with_reducible refine (touchstoneref06_Told.calls kj1 a0_0 a0_1 a0_2 a0_3 t150 _ A16.out).mono ?_); rintro e w46 ⟨rfl, hb⟩; refine ⟨_, rfl, ?_⟩; have n0_ := Aside0.mk (blk_below (g := gb149) (o := .cells #[.int .i64 a0_0, .string a0_1, .int .i64 a0_2, .int .i64 a0_3] 32 (0, 0)) (by (with_reducible repeat (first | refine blk_drewN ?_ _ | refine blk_drew ?_ | refine blk_alloc ?_ _)); exact BK149.out) hb); have n1_ := Aside0.mk (below_step (by repeat (first | (with_reducible first | exact HB.out | apply below_alloc | apply pw_below_drewN | apply below_drew1 | refine below_set ?_ GE149.out) | exact HB.out)) hb); clear BK149; clear HB; have BK149 := n0_; have HB := n1_; clear n0_ n1_; (try clear hb); (try clear hb2); (try clear hk); (try clear hi)) | ((with_reducible refine gate_callee (f := 32) rfl ?_); refine goesL_ (some 41) rfl rfl Tryz.func32 (by kernel_rfl) rfl #[.string t150, .int .i64 0] rfl (by (try simp only [List.map_toArray, List.map_cons, List.map_nil]); first | done | rfl | (simp only [List.length_drop, List.length_take]; rfl)) ?_; (with_reducible refine (touchstoneref06_One.calls t150 0 t151 t152 t153 t154 t155 _ A20.out).mono ?_); rintro e w47 ⟨rfl, hb⟩; refine ⟨_, rfl, ?_⟩; have n0_ := Aside0.mk (blk_below (g := gb149) (o := .cells #[.int .i64 a0_0, .string a0_1, .int .i64 a0_2, .int .i64 a0_3] 32 (0, 0)) (by (with_reducible repeat (first | refine blk_drewN ?_ _ | refine blk_drew ?_ | refine blk_alloc ?_ _)); exact BK149.out) hb); have n1_ := Aside0.mk (below_step (by repeat (first | (with_reducible first | exact HB.out | apply below_alloc | apply pw_below_drewN | apply below_drew1 | refine below_set ?_ GE149.out) | exact HB.out)) hb); clear BK149; clear HB; have BK149 := n0_; have HB := n1_; clear n0_ n1_; (try clear hb); (try clear hb2); (try clear hk); (try clear hi)) | ((with_reducible refine gate_dst (N := 4) rfl ?_); (try (refine gate_guard (by rfl) ?_; dsimp only)); refine box_event ?hg (N := 4) ?hd (cs := #[.int .i64 0, .string (⟨#[]⟩ : ByteArray), .int .i64 0, .int .i64 0]) (t := 32) ?hr ?_; (case hd => rfl); (case hg => rfl); (case hr => first | (go_simp; done) | (go_simp; rfl)); intro gb156 hg w48 hbox hb; have n0_ := Aside0.mk (blk_below (g := gb149) (o := .cells #[.int .i64 a0_0, .string a0_1, .int .i64 a0_2, .int .i64 a0_3] 32 (0, 0)) (by (with_reducible repeat (first | refine blk_drewN ?_ _ | refine blk_drew ?_ | refine blk_alloc ?_ _)); exact BK149.out) hb); have n1_ := Aside0.mk (below_step (by repeat (first | (with_reducible first | exact HB.out | apply below_alloc | apply pw_below_drewN | apply below_drew1 | refine below_set ?_ GE149.out) | exact HB.out)) hb); have n2_ := Aside0.mk (hbox); have n3_ := Aside0.mk ((by rw [hg]; exact (below_size (by repeat (first | (with_reducible first | exact HB.out | apply below_alloc | apply pw_below_drewN | apply below_drew1 | refine below_set ?_ GE149.out) | exact HB.out))) : w.heap.size ≤ gb156)); have n4_ := Aside0.mk ((by rw [hg]; exact (below_size (by repeat (first | (with_reducible first | exact HB.out | apply below_alloc | apply pw_below_drewN | apply below_drew1 | refine below_set ?_ GE149.out) | exact HB.out))) : w.heap.size ≤ gb156)); have n5_ := Aside0.mk ((by rw [hg]; exact Nat.ne_of_lt (blk_lt (g := gb149) (o := .cells #[.int .i64 a0_0, .string a0_1, .int .i64 a0_2, .int .i64 a0_3] 32 (0, 0)) (by (with_reducible repeat (first | refine blk_drewN ?_ _ | refine blk_drew ?_ | refine blk_alloc ?_ _)); exact BK149.out)) : gb149 ≠ gb156)); have n6_ := Aside0.mk ((by rw [hg]; exact Nat.ne_of_gt (blk_lt (g := gb149) (o := .cells #[.int .i64 a0_0, .string a0_1, .int .i64 a0_2, .int .i64 a0_3] 32 (0, 0)) (by (with_reducible repeat (first | refine blk_drewN ?_ _ | refine blk_drew ?_ | refine blk_alloc ?_ _)); exact BK149.out)) : gb156 ≠ gb149)); clear BK149; clear HB; have BK149 := n0_; have HB := n1_; have BK156 := n2_; have GW156 := n3_; have GE156 := n4_; have NB149_156 := n5_; have NB156_149 := n6_; clear n0_ n1_ n2_ n3_ n4_ n5_ n6_; clear hb hbox hg; have hnb49 := NB156_149.out; have hnc49 := NB149_156.out; have hcz50_0 : w48.cell? ⟨gb156, 0, none⟩ = some (.int .i64 0) := (blk_cell BK156.out 0).trans rfl; have hcz50_1 : w48.cell? ⟨gb156, 1, none⟩ = some (.string (⟨#[]⟩ : ByteArray)) := (blk_cell BK156.out 1).trans rfl; have hcz50_2 : w48.cell? ⟨gb156, 2, none⟩ = some (.int .i64 0) := (blk_cell BK156.out 2).trans rfl; have hcz50_3 : w48.cell? ⟨gb156, 3, none⟩ = some (.int .i64 0) := (blk_cell BK156.out 3).trans rfl; have hfz50_0 := blk_frozen BK156.out 0; have hfz50_1 := blk_frozen BK156.out 1; have hfz50_2 := blk_frozen BK156.out 2; have hfz50_3 := blk_frozen BK156.out 3))
       go_ret
       exact ⟨by first | rfl | (simp [errW_none, errW_some] <;> rfl) | (simp [*, errW_none, errW_some] <;> rfl), by repeat (first | (with_reducible first | exact HB.out | apply below_alloc | apply pw_below_drewN | apply below_drew1 | refine below_set ?_ GE149.out | refine below_set ?_ GE156.out) | exact HB.out)⟩

/-! ### touchstoneref06_Tell: function 11 -/
def touchstoneref06_Tell.l0 : Nat → List (S32) → ByteArray → Int → Option (ByteArray × Int)
  | 0, _, _, _ => none
  | k + 1, x0, x4, x5 => if x5 < (x0.length : Int) then (if 0 ≤ x5 then ((touchstoneref06_Right.f k ((rd_T32 x0 x5).f0) ((rd_T32 x0 x5).f1) ((rd_T32 x0 x5).f2) ((rd_T32 x0 x5).f3)).bind fun t158 => (if t158 = true then (if x5 > 0 then (if x4.size + 1 ≤ 9223372036854775807 then ((touchstoneref06_Told.f k ((rd_T32 x0 x5).f0) ((rd_T32 x0 x5).f1) ((rd_T32 x0 x5).f2) ((rd_T32 x0 x5).f3)).bind fun t160 => (if (x4 ++ (⟨#[32]⟩ : ByteArray)).size + t160.size ≤ 9223372036854775807 then (touchstoneref06_Tell.l0 k x0 ((x4 ++ (⟨#[32]⟩ : ByteArray)) ++ t160) (wrap64 (x5 + 1))) else (none))) else (none)) else ((touchstoneref06_Told.f k ((rd_T32 x0 x5).f0) ((rd_T32 x0 x5).f1) ((rd_T32 x0 x5).f2) ((rd_T32 x0 x5).f3)).bind fun t162 => (if x4.size + t162.size ≤ 9223372036854775807 then (touchstoneref06_Tell.l0 k x0 (x4 ++ t162) (wrap64 (x5 + 1))) else (none)))) else (some ((⟨#[]⟩ : ByteArray), 2)))) else (none)) else (some (x4, 0))
def touchstoneref06_Tell.f (k : Nat) (l0 : List (S32)) : Option (ByteArray × Int) := touchstoneref06_Tell.l0 k l0 (⟨#[]⟩ : ByteArray) 0
theorem touchstoneref06_Tell.mono_l : ∀ k, (∀ y0 y1 y2, LeO (touchstoneref06_Tell.l0 k y0 y1 y2) (touchstoneref06_Tell.l0 (k + 1) y0 y1 y2))
  | 0 => fun _ _ _ r h => by simp [touchstoneref06_Tell.l0] at h
  | k + 1 => by
    have ih0 := touchstoneref06_Tell.mono_l k
    · intro y0 y1 y2
      unfold touchstoneref06_Tell.l0
      repeat' first
      | (with_reducible exact ih0 _ _ _)
      | (with_reducible exact touchstoneref06_Right.mono _ _ _ _ _)
      | (with_reducible exact touchstoneref06_Told.mono _ _ _ _ _)
      | (with_reducible exact LeO.refl _)
      | (with_reducible exact LeO.none _)
      | (with_reducible refine LeO.ite ?_ ?_)
      | (with_reducible refine LeO.bind ?_ (fun _ => ?_))
      | exact ih0 _ _ _
      | exact touchstoneref06_Right.mono _ _ _ _ _
      | exact touchstoneref06_Told.mono _ _ _ _ _
      | exact LeO.none _
      | refine LeO.ite ?_ ?_
      | refine LeO.bind ?_ (fun _ => ?_)
theorem touchstoneref06_Tell.mono : ∀ a0 k, LeO (touchstoneref06_Tell.f k a0) (touchstoneref06_Tell.f (k + 1) a0) := by
  intro a0 k
  have ih0 := touchstoneref06_Tell.mono_l k
  unfold touchstoneref06_Tell.f
  repeat' first
      | (with_reducible exact ih0 _ _ _)
      | (with_reducible exact touchstoneref06_Right.mono _ _ _ _ _)
      | (with_reducible exact touchstoneref06_Told.mono _ _ _ _ _)
      | (with_reducible exact LeO.refl _)
      | (with_reducible exact LeO.none _)
      | (with_reducible refine LeO.ite ?_ ?_)
      | (with_reducible refine LeO.bind ?_ (fun _ => ?_))
      | exact ih0 _ _ _
      | exact touchstoneref06_Right.mono _ _ _ _ _
      | exact touchstoneref06_Told.mono _ _ _ _ _
      | exact LeO.none _
      | refine LeO.ite ?_ ?_
      | refine LeO.bind ?_ (fun _ => ?_)
set_option maxHeartbeats 8000000 in
set_option maxRecDepth 100000 in
theorem touchstoneref06_Tell.calls (k : Nat) (A0 : Option Addr) (c0 : Nat) (l0 : List (S32)) (r1 : ByteArray) (r2 : Int) (w : World) (hr0 : Kd.C k32 w A0 l0.length l0) (hc0 : l0.length ≤ c0) (h : touchstoneref06_Tell.f k l0 = some (r1, r2)) :
    Calls Tryz.prog 11 #[.slice A0 l0.length c0] w fun e w' => e = .returned (.tuple #[.string r1, .int .i64 r2]) ∧ Below w.heap.size w w' := by
  have hu32 := Tryz.underlying32
  have HR0 := Aside0.mk hr0
  have HC0 := Aside0.mk hc0
  clear hr0 hc0
  have HB := Aside0.mk (Below.refl w.heap.size w)
  have H : (touchstoneref06_Tell.l0 k l0 (⟨#[]⟩ : ByteArray) 0) = some (r1, r2) := h
  clear h
  have H' := Aside0.mk H
  clear H
  go_enter Tryz.func11, Tryz.ntmps11
  go_wp2
  go_loopg [4, 5] k (fun kq v4 v5 w' => ∃ (x4_1 : ByteArray) (x5_1 : Int), v4 = .string x4_1 ∧ v5 = .int .i64 x5_1 ∧ Aside0 (touchstoneref06_Tell.l0 kq l0 x4_1 x5_1 = some (r1, r2)) ∧ Aside0 (kq ≤ k) ∧ Aside0 (Below w.heap.size w w'))
  case atStart => exact ⟨((⟨#[]⟩ : ByteArray)), (0), (by first | rfl | (simp; done) | (simp [*]; done)), (by first | rfl | (simp; done) | (simp [*]; done)), H', ⟨Nat.le_refl _⟩, ⟨by repeat (first | (with_reducible first | exact HB.out | apply below_alloc | apply pw_below_drewN | apply below_drew1) | exact HB.out)⟩⟩
  case round =>
   clear H'
   try clear c1
   obtain ⟨x4_1, x5_1, rfl, rfl, HA, HK1, HB⟩ := hrel
   cases gk with
   | zero => exact absurd HA.out (by simp [touchstoneref06_Tell.l0])
   | succ k1 =>
    have H := HA.out
    clear HA
    simp only [touchstoneref06_Tell.l0] at H
    by_cases c2 : x5_1 < (l0.length : Int)
    ·rw [if_pos c2] at H
     have c2b0 : decide (x5_1 < (l0.length : Int)) = true := decide_eq_true c2
     clear c2
     by_cases c3 : 0 ≤ x5_1
     ·rw [if_pos c3] at H
      have c3b0 : decide (0 ≤ x5_1) = true := decide_eq_true c3
      clear c3
      replace H := Option.bind_eq_some_iff.mp H
      obtain ⟨t158, A40, H⟩ := H
      replace H : (if t158 = true then (if x5_1 > 0 then (if x4_1.size + 1 ≤ 9223372036854775807 then ((touchstoneref06_Told.f k1 ((rd_T32 l0 x5_1).f0) ((rd_T32 l0 x5_1).f1) ((rd_T32 l0 x5_1).f2) ((rd_T32 l0 x5_1).f3)).bind fun t160 => (if (x4_1 ++ (⟨#[32]⟩ : ByteArray)).size + t160.size ≤ 9223372036854775807 then (touchstoneref06_Tell.l0 k1 l0 ((x4_1 ++ (⟨#[32]⟩ : ByteArray)) ++ t160) (wrap64 (x5_1 + 1))) else (none))) else (none)) else ((touchstoneref06_Told.f k1 ((rd_T32 l0 x5_1).f0) ((rd_T32 l0 x5_1).f1) ((rd_T32 l0 x5_1).f2) ((rd_T32 l0 x5_1).f3)).bind fun t162 => (if x4_1.size + t162.size ≤ 9223372036854775807 then (touchstoneref06_Tell.l0 k1 l0 (x4_1 ++ t162) (wrap64 (x5_1 + 1))) else (none)))) else (some ((⟨#[]⟩ : ByteArray), 2))) = some (r1, r2) := H
      have A4 := Aside0.mk A40
      clear A40
      by_cases c5 : t158 = true
      ·subst c5
       have H1 : (if x5_1 > 0 then (if x4_1.size + 1 ≤ 9223372036854775807 then ((touchstoneref06_Told.f k1 ((rd_T32 l0 x5_1).f0) ((rd_T32 l0 x5_1).f1) ((rd_T32 l0 x5_1).f2) ((rd_T32 l0 x5_1).f3)).bind fun t160 => (if (x4_1 ++ (⟨#[32]⟩ : ByteArray)).size + t160.size ≤ 9223372036854775807 then (touchstoneref06_Tell.l0 k1 l0 ((x4_1 ++ (⟨#[32]⟩ : ByteArray)) ++ t160) (wrap64 (x5_1 + 1))) else (none))) else (none)) else ((touchstoneref06_Told.f k1 ((rd_T32 l0 x5_1).f0) ((rd_T32 l0 x5_1).f1) ((rd_T32 l0 x5_1).f2) ((rd_T32 l0 x5_1).f3)).bind fun t162 => (if x4_1.size + t162.size ≤ 9223372036854775807 then (touchstoneref06_Tell.l0 k1 l0 (x4_1 ++ t162) (wrap64 (x5_1 + 1))) else (none)))) = some (r1, r2) := by rw [if_pos rfl] at H; exact H
       clear H
       have H := H1
       clear H1
       by_cases c6 : x5_1 > 0
       ·rw [if_pos c6] at H
        have c6b0 : decide (0 < x5_1) = true := decide_eq_true c6
        clear c6
        by_cases c7 : x4_1.size + 1 ≤ 9223372036854775807
        ·rw [if_pos c7] at H
         have c7b0 := eq_true c7
         have c7b1 : decide (x4_1.size + 1 ≤ 9223372036854775807) = true := decide_eq_true c7
         try have c7b2 : (9223372036854775807 < x4_1.size + 1) = False := eq_false (Nat.not_lt.2 c7)
         replace H := Option.bind_eq_some_iff.mp H
         obtain ⟨t160, A80, H⟩ := H
         replace H : (if (x4_1 ++ (⟨#[32]⟩ : ByteArray)).size + t160.size ≤ 9223372036854775807 then (touchstoneref06_Tell.l0 k1 l0 ((x4_1 ++ (⟨#[32]⟩ : ByteArray)) ++ t160) (wrap64 (x5_1 + 1))) else (none)) = some (r1, r2) := H
         have A8 := Aside0.mk A80
         clear A80
         by_cases c9 : (x4_1 ++ (⟨#[32]⟩ : ByteArray)).size + t160.size ≤ 9223372036854775807
         ·rw [if_pos c9] at H
          have c9b0 := eq_true c9
          have c9b1 : decide ((x4_1 ++ (⟨#[32]⟩ : ByteArray)).size + t160.size ≤ 9223372036854775807) = true := decide_eq_true c9
          try have c9b3 : (9223372036854775807 < x4_1.size + 1 + t160.size) = False := eq_false (by have z_ := c9; simp only [ByteArray.size_append'] at z_; exact Nat.not_lt.2 z_)
          try have c9b2 : (9223372036854775807 < (x4_1 ++ (⟨#[32]⟩ : ByteArray)).size + t160.size) = False := eq_false (Nat.not_lt.2 c9)
          have H' := Aside0.mk H
          clear H
          have p157 : 0 ≤ (x5_1 : Int) := of_decide_eq_true (by first | (with_reducible assumption) | assumption)
          have q157 : x5_1 < (l0.length : Int) := of_decide_eq_true (by first | (with_reducible assumption) | assumption)
          obtain ⟨ad157, e157, hx157_0, hx157_1, hx157_2, hx157_3⟩ := at_T32 HR0.out x5_1 p157 q157
          cases e157
          replace hx157_0 := (HB.out.cell (World.block_lt_of_cell? w _ hx157_0)).trans hx157_0
          replace hx157_1 := (HB.out.cell (World.block_lt_of_cell? w _ hx157_1)).trans hx157_1
          replace hx157_2 := (HB.out.cell (World.block_lt_of_cell? w _ hx157_2)).trans hx157_2
          replace hx157_3 := (HB.out.cell (World.block_lt_of_cell? w _ hx157_3)).trans hx157_3
          replace p157 := eq_true p157
          replace q157 := eq_true q157
          go_wp2_with (first | ((with_reducible refine gate_callee (f := 13) rfl ?_); refine goesL_ (some 16) rfl rfl Tryz.func13 (by kernel_rfl) rfl #[.agg #[.int .i64 ((rd_T32 l0 x5_1).f0), .string ((rd_T32 l0 x5_1).f1), .int .i64 ((rd_T32 l0 x5_1).f2), .int .i64 ((rd_T32 l0 x5_1).f3)]] rfl (by (try simp only [List.map_toArray, List.map_cons, List.map_nil]); first | done | rfl | (simp only [List.length_drop, List.length_take]; rfl)) ?_; (with_reducible refine (touchstoneref06_Right.calls k1 ((rd_T32 l0 x5_1).f0) ((rd_T32 l0 x5_1).f1) ((rd_T32 l0 x5_1).f2) ((rd_T32 l0 x5_1).f3) true _ A4.out).mono ?_); rintro e w10 ⟨rfl, hb⟩; refine ⟨_, rfl, ?_⟩; have n0_ := Aside0.mk (below_step (by repeat (first | (with_reducible first | exact HB.out | apply below_alloc | apply pw_below_drewN | apply below_drew1) | exact HB.out)) hb); clear HB; have HB := n0_; clear n0_; (try clear hb); (try clear hb2); (try clear hk); (try clear hi); have p159 : 0 ≤ (x5_1 : Int) := of_decide_eq_true (by first | (with_reducible assumption) | assumption); have q159 : x5_1 < (l0.length : Int) := of_decide_eq_true (by first | (with_reducible assumption) | assumption); obtain ⟨ad159, e159, hx159_0, hx159_1, hx159_2, hx159_3⟩ := at_T32 HR0.out x5_1 p159 q159; obtain rfl : ad157 = ad159 := (by injection e159); replace hx159_0 := (HB.out.cell (World.block_lt_of_cell? w _ hx159_0)).trans hx159_0; replace hx159_1 := (HB.out.cell (World.block_lt_of_cell? w _ hx159_1)).trans hx159_1; replace hx159_2 := (HB.out.cell (World.block_lt_of_cell? w _ hx159_2)).trans hx159_2; replace hx159_3 := (HB.out.cell (World.block_lt_of_cell? w _ hx159_3)).trans hx159_3; replace p159 := eq_true p159; replace q159 := eq_true q159) | ((with_reducible refine gate_callee (f := 30) rfl ?_); refine goesL_ (some 27) rfl rfl Tryz.func30 (by kernel_rfl) rfl #[.agg #[.int .i64 ((rd_T32 l0 x5_1).f0), .string ((rd_T32 l0 x5_1).f1), .int .i64 ((rd_T32 l0 x5_1).f2), .int .i64 ((rd_T32 l0 x5_1).f3)]] rfl (by (try simp only [List.map_toArray, List.map_cons, List.map_nil]); first | done | rfl | (simp only [List.length_drop, List.length_take]; rfl)) ?_; (with_reducible refine (touchstoneref06_Told.calls k1 ((rd_T32 l0 x5_1).f0) ((rd_T32 l0 x5_1).f1) ((rd_T32 l0 x5_1).f2) ((rd_T32 l0 x5_1).f3) t160 _ A8.out).mono ?_); rintro e w11 ⟨rfl, hb⟩; refine ⟨_, rfl, ?_⟩; have n0_ := Aside0.mk (below_step (by repeat (first | (with_reducible first | exact HB.out | apply below_alloc | apply pw_below_drewN | apply below_drew1) | exact HB.out)) hb); clear HB; have HB := n0_; clear n0_; (try clear hb); (try clear hb2); (try clear hk); (try clear hi)))
          go_roundg k1
          case measure => have := HK1.out; omega
          case rel => exact ⟨((x4_1 ++ (⟨#[32]⟩ : ByteArray)) ++ t160), (wrap64 (x5_1 + 1)), (by first | rfl | (simp; done) | (simp [*]; done)), (by first | rfl | (simp; done) | (simp [*]; done)), H', ⟨by have := HK1.out; omega⟩, ⟨by repeat (first | (with_reducible first | exact HB.out | apply below_alloc | apply pw_below_drewN | apply below_drew1) | exact HB.out)⟩⟩
         ·rw [if_neg c9] at H
          exact absurd H (by simp)
        ·rw [if_neg c7] at H
         exact absurd H (by simp)
       ·rw [if_neg c6] at H
        have c6b0 : decide (0 < x5_1) = false := decide_eq_false c6
        clear c6
        replace H := Option.bind_eq_some_iff.mp H
        obtain ⟨t162, A120, H⟩ := H
        replace H : (if x4_1.size + t162.size ≤ 9223372036854775807 then (touchstoneref06_Tell.l0 k1 l0 (x4_1 ++ t162) (wrap64 (x5_1 + 1))) else (none)) = some (r1, r2) := H
        have A12 := Aside0.mk A120
        clear A120
        by_cases c13 : x4_1.size + t162.size ≤ 9223372036854775807
        ·rw [if_pos c13] at H
         have c13b0 := eq_true c13
         have c13b1 : decide (x4_1.size + t162.size ≤ 9223372036854775807) = true := decide_eq_true c13
         try have c13b2 : (9223372036854775807 < x4_1.size + t162.size) = False := eq_false (Nat.not_lt.2 c13)
         have H' := Aside0.mk H
         clear H
         have p157 : 0 ≤ (x5_1 : Int) := of_decide_eq_true (by first | (with_reducible assumption) | assumption)
         have q157 : x5_1 < (l0.length : Int) := of_decide_eq_true (by first | (with_reducible assumption) | assumption)
         obtain ⟨ad157, e157, hx157_0, hx157_1, hx157_2, hx157_3⟩ := at_T32 HR0.out x5_1 p157 q157
         cases e157
         replace hx157_0 := (HB.out.cell (World.block_lt_of_cell? w _ hx157_0)).trans hx157_0
         replace hx157_1 := (HB.out.cell (World.block_lt_of_cell? w _ hx157_1)).trans hx157_1
         replace hx157_2 := (HB.out.cell (World.block_lt_of_cell? w _ hx157_2)).trans hx157_2
         replace hx157_3 := (HB.out.cell (World.block_lt_of_cell? w _ hx157_3)).trans hx157_3
         replace p157 := eq_true p157
         replace q157 := eq_true q157
         go_wp2_with (first | ((with_reducible refine gate_callee (f := 13) rfl ?_); refine goesL_ (some 16) rfl rfl Tryz.func13 (by kernel_rfl) rfl #[.agg #[.int .i64 ((rd_T32 l0 x5_1).f0), .string ((rd_T32 l0 x5_1).f1), .int .i64 ((rd_T32 l0 x5_1).f2), .int .i64 ((rd_T32 l0 x5_1).f3)]] rfl (by (try simp only [List.map_toArray, List.map_cons, List.map_nil]); first | done | rfl | (simp only [List.length_drop, List.length_take]; rfl)) ?_; (with_reducible refine (touchstoneref06_Right.calls k1 ((rd_T32 l0 x5_1).f0) ((rd_T32 l0 x5_1).f1) ((rd_T32 l0 x5_1).f2) ((rd_T32 l0 x5_1).f3) true _ A4.out).mono ?_); rintro e w14 ⟨rfl, hb⟩; refine ⟨_, rfl, ?_⟩; have n0_ := Aside0.mk (below_step (by repeat (first | (with_reducible first | exact HB.out | apply below_alloc | apply pw_below_drewN | apply below_drew1) | exact HB.out)) hb); clear HB; have HB := n0_; clear n0_; (try clear hb); (try clear hb2); (try clear hk); (try clear hi); have p161 : 0 ≤ (x5_1 : Int) := of_decide_eq_true (by first | (with_reducible assumption) | assumption); have q161 : x5_1 < (l0.length : Int) := of_decide_eq_true (by first | (with_reducible assumption) | assumption); obtain ⟨ad161, e161, hx161_0, hx161_1, hx161_2, hx161_3⟩ := at_T32 HR0.out x5_1 p161 q161; obtain rfl : ad157 = ad161 := (by injection e161); replace hx161_0 := (HB.out.cell (World.block_lt_of_cell? w _ hx161_0)).trans hx161_0; replace hx161_1 := (HB.out.cell (World.block_lt_of_cell? w _ hx161_1)).trans hx161_1; replace hx161_2 := (HB.out.cell (World.block_lt_of_cell? w _ hx161_2)).trans hx161_2; replace hx161_3 := (HB.out.cell (World.block_lt_of_cell? w _ hx161_3)).trans hx161_3; replace p161 := eq_true p161; replace q161 := eq_true q161) | ((with_reducible refine gate_callee (f := 30) rfl ?_); refine goesL_ (some 27) rfl rfl Tryz.func30 (by kernel_rfl) rfl #[.agg #[.int .i64 ((rd_T32 l0 x5_1).f0), .string ((rd_T32 l0 x5_1).f1), .int .i64 ((rd_T32 l0 x5_1).f2), .int .i64 ((rd_T32 l0 x5_1).f3)]] rfl (by (try simp only [List.map_toArray, List.map_cons, List.map_nil]); first | done | rfl | (simp only [List.length_drop, List.length_take]; rfl)) ?_; (with_reducible refine (touchstoneref06_Told.calls k1 ((rd_T32 l0 x5_1).f0) ((rd_T32 l0 x5_1).f1) ((rd_T32 l0 x5_1).f2) ((rd_T32 l0 x5_1).f3) t162 _ A12.out).mono ?_); rintro e w15 ⟨rfl, hb⟩; refine ⟨_, rfl, ?_⟩; have n0_ := Aside0.mk (below_step (by repeat (first | (with_reducible first | exact HB.out | apply below_alloc | apply pw_below_drewN | apply below_drew1) | exact HB.out)) hb); clear HB; have HB := n0_; clear n0_; (try clear hb); (try clear hb2); (try clear hk); (try clear hi)))
         go_roundg k1
         case measure => have := HK1.out; omega
         case rel => exact ⟨(x4_1 ++ t162), (wrap64 (x5_1 + 1)), (by first | rfl | (simp; done) | (simp [*]; done)), (by first | rfl | (simp; done) | (simp [*]; done)), H', ⟨by have := HK1.out; omega⟩, ⟨by repeat (first | (with_reducible first | exact HB.out | apply below_alloc | apply pw_below_drewN | apply below_drew1) | exact HB.out)⟩⟩
        ·rw [if_neg c13] at H
         exact absurd H (by simp)
      ·replace c5 := Bool.eq_false_iff.mpr c5
       subst c5
       have H1 : (some ((⟨#[]⟩ : ByteArray), 2)) = some (r1, r2) := by rw [if_neg (show ¬ (false = true) by decide)] at H; exact H
       clear H
       have H := H1
       clear H1
       simp only [Option.some.injEq, Prod.mk.injEq] at H
       obtain ⟨rfl, rfl⟩ := H
       have p157 : 0 ≤ (x5_1 : Int) := of_decide_eq_true (by first | (with_reducible assumption) | assumption)
       have q157 : x5_1 < (l0.length : Int) := of_decide_eq_true (by first | (with_reducible assumption) | assumption)
       obtain ⟨ad157, e157, hx157_0, hx157_1, hx157_2, hx157_3⟩ := at_T32 HR0.out x5_1 p157 q157
       cases e157
       replace hx157_0 := (HB.out.cell (World.block_lt_of_cell? w _ hx157_0)).trans hx157_0
       replace hx157_1 := (HB.out.cell (World.block_lt_of_cell? w _ hx157_1)).trans hx157_1
       replace hx157_2 := (HB.out.cell (World.block_lt_of_cell? w _ hx157_2)).trans hx157_2
       replace hx157_3 := (HB.out.cell (World.block_lt_of_cell? w _ hx157_3)).trans hx157_3
       replace p157 := eq_true p157
       replace q157 := eq_true q157
       go_wp2_with (first | ((with_reducible refine gate_callee (f := 13) rfl ?_); refine goesL_ (some 16) rfl rfl Tryz.func13 (by kernel_rfl) rfl #[.agg #[.int .i64 ((rd_T32 l0 x5_1).f0), .string ((rd_T32 l0 x5_1).f1), .int .i64 ((rd_T32 l0 x5_1).f2), .int .i64 ((rd_T32 l0 x5_1).f3)]] rfl (by (try simp only [List.map_toArray, List.map_cons, List.map_nil]); first | done | rfl | (simp only [List.length_drop, List.length_take]; rfl)) ?_; (with_reducible refine (touchstoneref06_Right.calls k1 ((rd_T32 l0 x5_1).f0) ((rd_T32 l0 x5_1).f1) ((rd_T32 l0 x5_1).f2) ((rd_T32 l0 x5_1).f3) false _ A4.out).mono ?_); rintro e w16 ⟨rfl, hb⟩; refine ⟨_, rfl, ?_⟩; have n0_ := Aside0.mk (below_step (by repeat (first | (with_reducible first | exact HB.out | apply below_alloc | apply pw_below_drewN | apply below_drew1) | exact HB.out)) hb); clear HB; have HB := n0_; clear n0_; (try clear hb); (try clear hb2); (try clear hk); (try clear hi)))
       go_ret2
       exact ⟨by first | rfl | (simp [errW_none, errW_some] <;> rfl) | (simp [*, errW_none, errW_some] <;> rfl), by repeat (first | (with_reducible first | exact HB.out | apply below_alloc | apply pw_below_drewN | apply below_drew1) | exact HB.out)⟩
     ·rw [if_neg c3] at H
      exact absurd H (by simp)
    ·rw [if_neg c2] at H
     have c2b0 : decide (x5_1 < (l0.length : Int)) = false := decide_eq_false c2
     clear c2
     simp only [Option.some.injEq, Prod.mk.injEq] at H
     obtain ⟨rfl, rfl⟩ := H
     go_wp2
     go_ret2
     exact ⟨by first | rfl | (simp [errW_none, errW_some] <;> rfl) | (simp [*, errW_none, errW_some] <;> rfl), by repeat (first | (with_reducible first | exact HB.out | apply below_alloc | apply pw_below_drewN | apply below_drew1) | exact HB.out)⟩

end Go.Proofs.YtaikpnenegifnaaGreatDoor.XL

/- The reference's Told, Right, Tell and Same, in plain Lean: what LexSpec says; no program in sight. -/
namespace Go.Proofs.YtaikpnenegifnaaGreatDoor
set_option linter.unusedSimpArgs false
set_option linter.unusedVariables false
open Go.RowKit Go.Proofs.YtaikpnenegifnaaGreatDoorW.PrintWords Go.Proofs.YtaikpnenegifnaaGreatDoor.XL

theorem tmod10 {n : Nat} (h : n ≤ 9223372036854775807) : Int.tmod (n : Int) 10 = ((n % 10 : Nat) : Int) := by
  rw [Int.tmod_eq_emod_of_nonneg (by omega)]; omega
theorem tdiv10 {n : Nat} (h : n ≤ 9223372036854775807) : Int.tdiv (n : Int) 10 = ((n / 10 : Nat) : Int) := by
  rw [Int.tdiv_eq_ediv_of_nonneg (by omega)]; omega
/-- The reference's digits of a number. -/
theorem dec_loop : ∀ (n : Nat) (acc : List UInt8) (k : Nat), n ≤ 9223372036854775807 → acc.length ≤ 1000 → n + 3 ≤ 2 ^ k → 2 ≤ k → (n ≠ 0 ∨ acc = []) → acc.length + (Lib.decDigits n).length ≤ 1000 →
    touchstoneref05_Dec.l0 k n (B acc) = some (B (Lib.decDigits n ++ acc)) := by
  intro n
  induction n using Nat.strongRecOn with
  | _ n ih =>
    intro acc k hn ha hk h2 hz hl
    obtain ⟨k, rfl⟩ : ∃ q, k = q + 1 := ⟨k - 1, by omega⟩
    have hpow : 2 ^ (k + 1) = 2 * 2 ^ k := by rw [Nat.pow_succ]; omega
    have hdig : (wrap64 (48 + ((n % 10 : Nat) : Int))) % 256 = ((48 + n % 10 : Nat) : Int) := by rw [w64 (by omega) (by omega)]; omega
    have hs : strOfNums ([((48 + n % 10 : Nat) : Int)] : List Int) = B [UInt8.ofNat (48 + n % 10)] := rfl
    have hwd : wrap64 ((n / 10 : Nat) : Int) = ((n / 10 : Nat) : Int) := w64b (by omega) (by omega)
    have hstop : ∀ acc2 : List UInt8, acc2 ≠ [] → ∀ q, 1 ≤ q → touchstoneref05_Dec.l0 q ((0 : Nat) : Int) (B acc2) = some (B acc2) := by
      intro acc2 h q hq
      obtain ⟨q, rfl⟩ : ∃ p, q = p + 1 := ⟨q - 1, by omega⟩
      rw [touchstoneref05_Dec.l0, if_neg (by decide), if_neg (by rw [tl_B]; exact h)]
    rw [touchstoneref05_Dec.l0, tmod10 hn, tdiv10 hn, hdig, hwd]
    simp only [Option.bind_some, hs]
    rw [B_app, sz_B, sz_B]
    have hbd : [UInt8.ofNat (48 + n % 10)].length + acc.length ≤ 9223372036854775807 := by simp only [List.length_cons, List.length_nil]; omega
    by_cases h10 : n < 10
    · have hd : Lib.decDigits n = [UInt8.ofNat (48 + n)] := by rw [Lib.decDigits, dif_pos h10]
      have hm : n % 10 = n := by omega
      have hdv : n / 10 = 0 := by omega
      have fin : touchstoneref05_Dec.l0 k ((n / 10 : Nat) : Int) (B ([UInt8.ofNat (48 + n % 10)] ++ acc)) = some (B (Lib.decDigits n ++ acc)) := by
        rw [hd, hm, hdv]; exact hstop _ (by simp) k (by omega)
      by_cases h0 : n = 0
      · rw [if_neg (by omega), if_pos (by rw [tl_B]; exact hz.resolve_left (fun e => e h0)), if_pos hbd]; exact fin
      · rw [if_pos (by omega), if_pos hbd]; exact fin
    · have hd : Lib.decDigits n = Lib.decDigits (n / 10) ++ [UInt8.ofNat (48 + n % 10)] := by
        conv => lhs; rw [Lib.decDigits, dif_neg h10]
      have hlen : (Lib.decDigits n).length = (Lib.decDigits (n / 10)).length + 1 := by rw [hd]; simp
      have hk2 : 2 ≤ k := by
        rcases Nat.lt_or_ge k 2 with h | h
        · have : 2 ^ k ≤ 2 ^ 1 := Nat.pow_le_pow_right (by decide) (by omega)
          omega
        · exact h
      rw [if_pos (by omega), if_pos hbd, ih (n / 10) (by omega) _ k (by omega) (by simp; omega) (by omega) hk2 (.inl (by omega)) (by simp; omega), hd]
      simp
theorem rdec {n : Nat} (hn : n ≤ 9223372036854775807) (k : Nat) (hk : 70 ≤ k) : touchstoneref05_Dec.f k n = some (B (Lib.decDigits n)) := by
  have hp : 2 ^ 70 ≤ 2 ^ k := Nat.pow_le_pow_right (by decide) hk
  have hl := told_len_i (n : Int) (by omega) (by omega)
  rw [Lib.itoa_nonneg] at hl
  have h := dec_loop n [] k hn (by simp) (by omega) (by omega) (.inr rfl) (by simp; omega)
  rw [List.append_nil] at h
  exact h
theorem rtext_esc (L : List UInt8) (hL : L.length ≤ 100000) : ∀ (m i : Nat) (k : Nat), i + m = L.length → m + 1 ≤ k →
    touchstoneref06_Text.l0 k (B L) (B (34 :: escB (L.take i))) i = some (B (34 :: (escB L ++ [34]))) := by
  intro m
  induction m with
  | zero =>
    intro i k hi hk
    obtain ⟨k, rfl⟩ : ∃ q, k = q + 1 := ⟨k - 1, by omega⟩
    have he := escB_len L
    rw [touchstoneref06_Text.l0, sz_B, if_neg (by omega), show L.take i = L from List.take_of_length_le (by omega), sz_B, if_pos (by simp; omega), show (⟨#[34]⟩ : ByteArray) = B [34] from rfl, B_app]
    rfl
  | succ m ih =>
    intro i k hi hk
    obtain ⟨k, rfl⟩ : ∃ q, k = q + 1 := ⟨k - 1, by omega⟩
    have hlt : i < L.length := by omega
    have ih' := ih (i + 1) k (by omega) (by omega)
    rw [esc_take hlt] at ih'
    have he := escB_len (L.take i)
    rw [List.length_take] at he
    obtain ⟨c, hc⟩ : ∃ c, L.getD i 0 = c := ⟨_, rfl⟩
    have hcc : L[i] = c := by rw [← hc, List.getD_eq_getElem?_getD, List.getElem?_eq_getElem hlt, Option.getD_some]
    rw [hcc] at ih'
    have hsz : (34 :: escB (L.take i)).length ≤ 200001 := by simp; omega
    rw [touchstoneref06_Text.l0, sz_B, if_pos (by omega), if_pos (by omega), bt_B, hc, wadd1 (by omega)]
    by_cases h10 : c = 10
    · subst h10
      rw [if_pos (by decide), sz_B, if_pos (by omega), show (⟨#[92, 110]⟩ : ByteArray) = B (esc1 10) from rfl, B_app]
      exact ih'
    rw [if_neg (ne10 h10)]
    by_cases h9 : c = 9
    · subst h9
      rw [if_pos (by decide), sz_B, if_pos (by omega), show (⟨#[92, 116]⟩ : ByteArray) = B (esc1 9) from rfl, B_app]
      exact ih'
    rw [if_neg (ne9 h9)]
    by_cases h34 : c = 34
    · subst h34
      rw [if_pos (by decide), sz_B, if_pos (by omega), if_pos (by omega), if_pos (by omega), Int.toNat_natCast, Int.toNat_natCast, ex_one hlt, hc, show (⟨#[92]⟩ : ByteArray) = B [92] from rfl, B_app, sz_B, sz_B, if_pos (by simp; omega), B_app]
      rw [show 34 :: escB (L.take i) ++ [92] ++ [34] = 34 :: escB (L.take i) ++ esc1 34 from by rw [List.append_assoc]; rfl]
      exact ih'
    rw [if_neg (ne34 h34)]
    by_cases h92 : c = 92
    · subst h92
      rw [if_pos (by decide), sz_B, if_pos (by omega), if_pos (by omega), if_pos (by omega), Int.toNat_natCast, Int.toNat_natCast, ex_one hlt, hc, show (⟨#[92]⟩ : ByteArray) = B [92] from rfl, B_app, sz_B, sz_B, if_pos (by simp; omega), B_app]
      rw [show 34 :: escB (L.take i) ++ [92] ++ [92] = 34 :: escB (L.take i) ++ esc1 92 from by rw [List.append_assoc]; rfl]
      exact ih'
    rw [if_neg (ne92 h92), if_pos (by omega), if_pos (by omega), Int.toNat_natCast, Int.toNat_natCast, ex_one hlt, hc, sz_B, sz_B, if_pos (by simp; omega), B_app]
    have e1 : esc1 c = [c] := by unfold esc1; rw [if_neg h10, if_neg h9, if_neg h34, if_neg h92]
    rw [e1] at ih'
    exact ih'
theorem rText (L : List UInt8) (hL : L.length ≤ 100000) (k : Nat) (hk : 100001 ≤ k) : touchstoneref06_Text.f k (B L) = some (B (34 :: (escB L ++ [34]))) :=
  rtext_esc L hL L.length 0 k (Nat.zero_add _) (by omega)
theorem rtold_f (x : S32) (h : okTok x) (h4 : x.f0 = 4 → -999999999999999999 ≤ x.f2 ∧ x.f2 ≤ 999999999999999999) (k : Nat) (hk : 100010 ≤ k) : touchstoneref06_Told.f k x.f0 x.f1 x.f2 x.f3 = some (B (toldL (tokOf x))) := by
  obtain ⟨h1, h2, h3⟩ := h
  have hl : x.f1.data.toList.length = x.f1.size := Array.length_toList
  unfold touchstoneref06_Told.f toldL tokOf
  simp only []
  by_cases k3 : x.f0 = 3
  · rw [if_pos k3, if_pos k3, if_pos (by omega), show (⟨#[39]⟩ : ByteArray) = B [39] from rfl]
    conv => lhs; rw [B_of x.f1]
    rw [B_app]; rfl
  rw [if_neg k3, if_neg k3]
  by_cases k4 : x.f0 = 4
  · rw [if_pos k4, if_pos k4]
    have hr := h4 k4
    by_cases hn : x.f2 < 0
    · rw [if_pos hn]
      obtain ⟨m, hm⟩ : ∃ m : Nat, x.f2 = -(m : Int) := ⟨x.f2.natAbs, by omega⟩
      have hlen := told_len_i (m : Int) (by omega) (by omega)
      rw [Lib.itoa_nonneg] at hlen
      rw [show wrap64 (x.f2 + 1) = -((m - 1 : Nat) : Int) from (w64b (by omega) (by omega)).trans (by omega), show wrap64 (-(-((m - 1 : Nat) : Int))) = ((m - 1 : Nat) : Int) from (w64b (by omega) (by omega)).trans (by omega),
        show wrap64 (((m - 1 : Nat) : Int) + 1) = (m : Int) from (w64b (by omega) (by omega)).trans (by omega), rdec (by omega) k (by omega), Option.bind_some, sz_B, if_pos (by omega), show (⟨#[45]⟩ : ByteArray) = B [45] from rfl, B_app]
      unfold Lib.itoa
      rw [if_pos hn, show x.f2.natAbs = m by omega]
      rfl
    · rw [if_neg hn]
      obtain ⟨m, hm⟩ : ∃ m : Nat, x.f2 = (m : Int) := ⟨x.f2.toNat, by omega⟩
      rw [hm, rdec (by omega) k (by omega), Lib.itoa_nonneg]
      rfl
  rw [if_neg k4, if_neg k4]
  by_cases k5 : x.f0 = 5
  · rw [if_pos k5, if_pos k5]
    conv => lhs; rw [B_of x.f1]
    rw [rText _ (by omega) k (by omega)]
    rfl
  rw [if_neg k5, if_neg k5]

theorem one_kind4 {l t : List UInt8} {n : Int} {m : Nat} (h : oneL l = some ((4, t, n), m)) : -999999999999999999 ≤ n ∧ n ≤ 999999999999999999 := by
  have vb : ∀ d : List UInt8, (∀ b ∈ d, isD b = true) → d.length ≤ 18 → val d ≤ 999999999999999999 := by
    intro d hd h18
    have hv := val_lt hd
    have hp : 10 ^ d.length ≤ 10 ^ 18 := Nat.pow_le_pow_right (by decide) h18
    omega
  cases l with
  | nil => simp [oneL] at h
  | cons c r =>
    rw [oneL] at h
    split at h
    · unfold nameL at h
      split at h
      · cases h
      · simp only [Option.some.injEq, Prod.mk.injEq] at h
        rcases nameK_cases ((c :: r).takeWhile isN) with e | e | e | e <;> rw [e] at h <;> exact absurd h.1.1 (by decide)
    · split at h
      · unfold varL at h
        split at h
        · cases h
        · simp only [Option.some.injEq, Prod.mk.injEq] at h
          exact absurd h.1.1 (by decide)
      · split at h
        · split at h
          · split at h
            · simp only [Option.some.injEq, Prod.mk.injEq] at h
              exact absurd h.1.1 (by decide)
            · cases h
          · cases h
        · split at h
          · split at h
            · simp only [Option.some.injEq, Prod.mk.injEq] at h
              exact absurd h.1.1 (by decide)
            · unfold negL at h
              split at h
              · rename_i v q hi
                obtain ⟨d, x, -, -, rfl, hd, -, -, h18, -, -⟩ := intL_some hi
                have := vb d hd h18
                split at h
                · cases h
                · simp only [Option.some.injEq, Prod.mk.injEq] at h
                  omega
              · cases h
          · split at h
            · unfold numTokL at h
              split at h
              · simp only [Option.some.injEq, Prod.mk.injEq] at h
                exact absurd h.1.1 (by decide)
              · rw [Option.map_eq_some_iff] at h
                obtain ⟨⟨v, q⟩, hi, he⟩ := h
                obtain ⟨d, x, -, -, rfl, hd, -, -, h18, -, -⟩ := intL_some hi
                have := vb d hd h18
                simp only [Prod.mk.injEq] at he
                omega
            · split at h
              · simp only [Option.some.injEq, Prod.mk.injEq] at h
                exact absurd h.1.1 (by decide)
              · cases h
theorem rright_f (x : S32) (h : okTok x) (k : Nat) (hk : 100020 ≤ k) : touchstoneref06_Right.f k x.f0 x.f1 x.f2 x.f3 = some (rightL (tokOf x)) := by
  obtain ⟨k, rfl⟩ : ∃ q, k = q + 1 := ⟨k - 1, by omega⟩
  have hl : x.f1.data.toList.length = x.f1.size := Array.length_toList
  have htl := told_len x h
  have hsz := h.1
  have bad : touchstoneref06_Right.j0 (k + 1) true x.f0 x.f1 x.f2 x.f3 = some false := by rw [touchstoneref06_Right.j0]; rfl
  unfold touchstoneref06_Right.f
  by_cases c1 : x.f0 < 1
  · rw [if_pos c1, bad, show rightL (tokOf x) = false from by unfold rightL; rw [decide_eq_false_iff_not]; intro e; have := e.1; simp [tokOf] at this; omega]
  rw [if_neg c1]
  by_cases c2 : x.f0 > 8
  · rw [if_pos c2, bad, show rightL (tokOf x) = false from by unfold rightL; rw [decide_eq_false_iff_not]; intro e; have := e.2.1; simp [tokOf] at this; omega]
  rw [if_neg c2]
  by_cases c3 : x.f1.size > 1000
  · rw [if_pos (by omega), bad, show rightL (tokOf x) = false from by unfold rightL; rw [decide_eq_false_iff_not]; intro e; have := e.2.2.1; simp [tokOf] at this; omega]
  rw [if_neg (by omega)]
  have out4 : x.f0 = 4 → ¬ (-999999999999999999 ≤ x.f2 ∧ x.f2 ≤ 999999999999999999) → rightL (tokOf x) = false := by
    intro e4 hn
    unfold rightL
    rw [decide_eq_false_iff_not]
    intro e
    have e5 := e.2.2.2.2
    unfold tokOf at e5
    rw [e4] at e5
    exact hn (one_kind4 e5)
  have main : (x.f0 = 4 → -999999999999999999 ≤ x.f2 ∧ x.f2 ≤ 999999999999999999) → touchstoneref06_Right.j0 (k + 1) false x.f0 x.f1 x.f2 x.f3 = some (rightL (tokOf x)) := by
    intro h4
    rw [touchstoneref06_Right.j0, if_neg (by decide), rtold_f x h h4 k (by omega), Option.bind_some, tl_B]
    by_cases c4 : toldL (tokOf x) = []
    · rw [if_pos c4, show rightL (tokOf x) = false from by unfold rightL; rw [decide_eq_false_iff_not]; exact fun e => e.2.2.2.1 c4]
    rw [if_neg c4]
    have hR : rightL (tokOf x) = decide (oneL (toldL (tokOf x)) = some (tokOf x, (toldL (tokOf x)).length)) := by
      unfold rightL
      rw [decide_eq_decide]
      exact ⟨fun e => e.2.2.2.2, fun e => ⟨by simp [tokOf]; omega, by simp [tokOf]; omega, by simp [tokOf]; omega, c4, e⟩⟩
    rw [hR]
    have hpos : 0 < (toldL (tokOf x)).length := List.length_pos_iff.2 c4
    unfold touchstoneref06_One.f
    rw [if_pos ⟨by rw [sz_B]; omega, by omega, by rw [sz_B]; omega⟩, Option.bind_some, sz_B]
    rw [show (B (toldL (tokOf x))).data.toList.drop (0 : Int).toNat = toldL (tokOf x) from rfl]
    cases ho : oneL (toldL (tokOf x)) with
    | none =>
      simp only []
      rw [if_neg (by omega)]
      rfl
    | some p =>
      obtain ⟨⟨kd, t, n⟩, m⟩ := p
      simp only []
      have hfin : ∀ b : Bool, (b = decide (some ((kd, t, n), m) = some (tokOf x, (toldL (tokOf x)).length))) ↔ (b = true ↔ ((kd = x.f0 ∧ t = x.f1.data.toList ∧ n = x.f2) ∧ m = (toldL (tokOf x)).length)) := by
        intro b
        rw [Bool.eq_iff_iff, decide_eq_true_eq]
        simp only [Option.some.injEq, Prod.mk.injEq, tokOf]
      have tle : x.f1.toList = x.f1.data.toList := ByteArray.toList_eq _
      rw [tl_B, tle]
      by_cases cm : m = (toldL (tokOf x)).length
      · rw [if_pos (by omega)]
        by_cases ck : kd = x.f0
        · rw [if_pos ck]
          by_cases ct : t = x.f1.data.toList
          · rw [if_pos ct]
            congr 1
            rw [hfin, beq_iff_eq]
            exact ⟨fun e => ⟨⟨ck, ct, e⟩, cm⟩, fun e => e.1.2.2⟩
          · rw [if_neg ct]
            congr 1
            rw [hfin]
            exact ⟨fun e => (by cases e), fun e => absurd e.1.2.1 ct⟩
        · rw [if_neg ck]
          congr 1
          rw [hfin]
          exact ⟨fun e => (by cases e), fun e => absurd e.1.1 ck⟩
      · rw [if_neg (by omega)]
        congr 1
        rw [hfin]
        exact ⟨fun e => (by cases e), fun e => absurd e.2 cm⟩
  by_cases e4 : x.f0 = 4
  · rw [if_pos e4]
    by_cases n1 : x.f2 < -999999999999999999
    · rw [if_pos n1, bad, out4 e4 (by omega)]
    rw [if_neg n1]
    by_cases n2 : x.f2 > 999999999999999999
    · rw [decide_eq_true n2, bad, out4 e4 (by omega)]
    rw [decide_eq_false n2]
    exact main (fun _ => by omega)
  · rw [if_neg e4]
    exact main (fun e => absurd e e4)
theorem right_range {x : S32} (h : rightL (tokOf x) = true) : x.f0 = 4 → -999999999999999999 ≤ x.f2 ∧ x.f2 ≤ 999999999999999999 := by
  intro e4
  unfold rightL at h
  have e5 := (of_decide_eq_true h).2.2.2.2
  unfold tokOf at e5
  rw [e4] at e5
  exact one_kind4 e5
theorem rtell_loop (l : List (S32)) (hr : room l) (hl2 : l.length ≤ 1000) : ∀ (m i k : Nat), i + m = l.length → 200050 + m ≤ k → (∀ x ∈ l.take i, rightL (tokOf x) = true) →
    touchstoneref06_Tell.l0 k l (B (tellL ((l.take i).map tokOf))) i = some (if l.all (fun x => rightL (tokOf x)) = true then (B (tellL (l.map tokOf)), 0) else (B [], 2)) := by
  intro m
  induction m with
  | zero =>
    intro i k hi hk hall
    obtain ⟨k, rfl⟩ : ∃ q, k = q + 1 := ⟨k - 1, by omega⟩
    rw [List.take_of_length_le (by omega)] at hall ⊢
    rw [touchstoneref06_Tell.l0, if_neg (by omega), if_pos (by rw [List.all_eq_true]; exact hall)]
  | succ m ih =>
    intro i k hi hk hall
    obtain ⟨k, rfl⟩ : ∃ q, k = q + 1 := ⟨k - 1, by omega⟩
    have hlt : i < l.length := by omega
    have hx := hr.1 l[i] (List.getElem_mem hlt)
    have hln : (tellL ((l.take i).map tokOf)).length ≤ 201000000 := by
      have hj := join_len ((l.take i).map fun x => toldL (tokOf x))
      have hs := sum_le (l.take i) (fun x h => hr.1 x (List.mem_of_mem_take h))
      unfold tellL
      rw [List.map_map]
      rw [List.length_map] at hj
      rw [List.length_take] at hs hj
      refine Nat.le_trans hj ?_
      omega
    have hnew := told_len l[i] hx
    have hnsz := hx.1
    rw [touchstoneref06_Tell.l0, if_pos (by omega), if_pos (by omega), rd_at hlt, rright_f _ hx k (by omega), Option.bind_some]
    cases hR : rightL (tokOf l[i]) with
    | false =>
      rw [if_neg (by decide), if_neg (by rw [List.all_eq_true]; intro e; have := e _ (List.getElem_mem hlt); rw [hR] at this; cases this)]
    | true =>
      have ih' := ih (i + 1) k (by omega) (by omega) (by
        intro x hx2
        rw [List.take_succ_eq_append_getElem hlt] at hx2
        rcases List.mem_append.1 hx2 with h | h
        · exact hall x h
        · rw [List.mem_singleton.1 h]; exact hR)
      have hjoin : tellL ((l.take (i + 1)).map tokOf) = (if i = 0 then [] else tellL ((l.take i).map tokOf) ++ [32]) ++ toldL (tokOf l[i]) := by
        rw [List.take_succ_eq_append_getElem hlt, List.map_append]
        cases i with
        | zero => simp [tellL, Lib.join_one]
        | succ i =>
          rw [if_neg (by omega)]
          unfold tellL
          cases hq : l.take (i + 1) with
          | nil =>
            have := congrArg List.length hq
            rw [List.length_take, List.length_nil] at this
            omega
          | cons a q =>
            simp only [List.map_cons, List.map_append, List.cons_append, List.map_nil, List.nil_append]
            rw [Lib.join_cons, Lib.join_cons]
            simp [Lib.joinTail]
      rw [hjoin] at ih'
      have hw : wrap64 ((i : Int) + 1) = ((i + 1 : Nat) : Int) := wadd1 (by omega)
      have htl := rtold_f l[i] hx (right_range hR) k (by omega)
      cases i with
      | zero =>
        simp only [if_true] at ih'
        rw [if_pos rfl, if_neg (by omega), htl, Option.bind_some, hw, sz_B, sz_B, if_pos (by omega)]
        have e0 : tellL ((l.take 0).map tokOf) = [] := rfl
        rw [e0, B_app]
        exact ih'
      | succ i =>
        rw [if_neg (by omega)] at ih'
        rw [if_pos rfl, if_pos (by omega), htl, Option.bind_some, hw, sz_B, if_pos (by omega), show (⟨#[32]⟩ : ByteArray) = B [32] from rfl, B_app, sz_B, sz_B, if_pos (by simp only [List.length_append, List.length_cons, List.length_nil]; omega), B_app]
        exact ih'
theorem rtell_f (l : List (S32)) (hr : room l) (hl2 : l.length ≤ 1000) (k : Nat) (hk : 300000 ≤ k) : touchstoneref06_Tell.f k l = some (if l.all (fun x => rightL (tokOf x)) = true then (B (tellL (l.map tokOf)), 0) else (B [], 2)) :=
  rtell_loop l hr hl2 l.length 0 k (Nat.zero_add _) (by omega) (fun x hx => by simp at hx)
theorem same_loop (a b : List (S32)) (hab : a.length = b.length) (hl : a.length ≤ 100000) : ∀ (m i k : Nat), i + m = a.length → m + 1 ≤ k → (a.take i).map tokOf = (b.take i).map tokOf →
    touchstoneref06_Same.l0 k a b i = some (decide (a.map tokOf = b.map tokOf)) := by
  intro m
  induction m with
  | zero =>
    intro i k hi hk hp
    obtain ⟨k, rfl⟩ : ∃ q, k = q + 1 := ⟨k - 1, by omega⟩
    rw [List.take_of_length_le (by omega), List.take_of_length_le (by omega)] at hp
    rw [touchstoneref06_Same.l0, if_neg (by omega), decide_eq_true hp]
  | succ m ih =>
    intro i k hi hk hp
    obtain ⟨k, rfl⟩ : ∃ q, k = q + 1 := ⟨k - 1, by omega⟩
    have ha : i < a.length := by omega
    have hb : i < b.length := by omega
    have hno : tokOf a[i] ≠ tokOf b[i] → (false = decide (a.map tokOf = b.map tokOf)) := by
      intro hne
      symm
      rw [decide_eq_false_iff_not]
      intro e
      have := congrArg (fun l => l[i]?) e
      simp [ha, hb] at this
      exact hne this
    have ta : a[i].f1.toList = a[i].f1.data.toList := ByteArray.toList_eq _
    have tb : b[i].f1.toList = b[i].f1.data.toList := ByteArray.toList_eq _
    rw [touchstoneref06_Same.l0, if_pos (by omega), if_pos (by omega), if_pos (by omega), rd_at ha, rd_at hb, ta, tb]
    by_cases c0 : a[i].f0 = b[i].f0
    · rw [if_pos c0]
      by_cases c1 : a[i].f1.data.toList = b[i].f1.data.toList
      · rw [if_pos c1]
        by_cases c2 : a[i].f2 = b[i].f2
        · rw [if_pos c2, show wrap64 ((i : Int) + 1) = ((i + 1 : Nat) : Int) from wadd1 (by omega)]
          refine ih (i + 1) k (by omega) (by omega) ?_
          rw [List.take_succ_eq_append_getElem ha, List.take_succ_eq_append_getElem hb, List.map_append, List.map_append, hp]
          simp [tokOf, c0, c1, c2]
        · rw [if_neg c2, hno (fun e => by simp [tokOf] at e; exact c2 e.2.2)]
      · rw [if_neg c1, hno (fun e => by simp [tokOf] at e; exact c1 (by rw [e.2.1]))]
    · rw [if_neg c0, hno (fun e => by simp [tokOf] at e; exact c0 e.1)]
theorem same_f (a b : List (S32)) (hl : a.length ≤ 100000) (k : Nat) (hk : 100001 ≤ k) : touchstoneref06_Same.f k a b = some (decide (a.map tokOf = b.map tokOf)) := by
  unfold touchstoneref06_Same.f
  by_cases h : a.length = b.length
  · rw [if_pos (by omega)]
    exact same_loop a b h hl a.length 0 k (Nat.zero_add _) (by omega) rfl
  · rw [if_neg (by omega)]
    congr 1
    symm
    rw [decide_eq_false_iff_not]
    intro e
    have := congrArg List.length e
    simp at this
    exact h this
end Go.Proofs.YtaikpnenegifnaaGreatDoor

/- What is told is lexed to the same tokens; what is lexed may be told; in plain Lean, no program in sight. -/
namespace Go.Proofs.YtaikpnenegifnaaGreatDoor
set_option linter.unusedSimpArgs false
set_option linter.unusedVariables false
open Go.RowKit Go.Proofs.YtaikpnenegifnaaGreatDoorW.PrintWords Go.Proofs.YtaikpnenegifnaaGreatDoor.XL

theorem one_rng {l t : List UInt8} {kd n : Int} {m : Nat} (h : oneL l = some ((kd, t, n), m)) : -999999999999999999 ≤ n ∧ n ≤ 999999999999999999 := by
  by_cases h4 : kd = 4
  · subst h4; exact one_kind4 h
  · have z : n = 0 → -999999999999999999 ≤ n ∧ n ≤ 999999999999999999 := fun e => by omega
    cases l with
    | nil => simp [oneL] at h
    | cons c r =>
      rw [oneL] at h
      split at h
      · unfold nameL at h
        split at h
        · cases h
        · simp only [Option.some.injEq, Prod.mk.injEq] at h
          exact z h.1.2.2.symm
      · split at h
        · unfold varL at h
          split at h
          · cases h
          · simp only [Option.some.injEq, Prod.mk.injEq] at h
            exact z h.1.2.2.symm
        · split at h
          · split at h
            · split at h
              · simp only [Option.some.injEq, Prod.mk.injEq] at h
                exact z h.1.2.2.symm
              · cases h
            · cases h
          · split at h
            · split at h
              · simp only [Option.some.injEq, Prod.mk.injEq] at h
                exact z h.1.2.2.symm
              · unfold negL at h
                split at h
                · split at h
                  · cases h
                  · simp only [Option.some.injEq, Prod.mk.injEq] at h
                    exact absurd h.1.1.symm h4
                · cases h
            · split at h
              · unfold numTokL at h
                split at h
                · simp only [Option.some.injEq, Prod.mk.injEq] at h
                  exact z h.1.2.2.symm
                · rw [Option.map_eq_some_iff] at h
                  obtain ⟨⟨v, q⟩, hi, he⟩ := h
                  simp only [Prod.mk.injEq] at he
                  exact absurd he.1.1.symm h4
              · split at h
                · simp only [Option.some.injEq, Prod.mk.injEq] at h
                  exact z h.1.2.2.symm
                · cases h
/-- No blank and no remark stands where a token begins. -/
theorem blank_of_one {l : List UInt8} {t : TokL} {m : Nat} (h : oneL l = some (t, m)) : blankM false l = 0 := by
  cases l with
  | nil => simp [oneL] at h
  | cons c r =>
    rw [blankM]
    by_cases h1 : c = 32 ∨ c = 9 ∨ c = 10
    · exfalso
      rw [oneL] at h
      rcases h1 with e | e | e <;> subst e
      · rw [if_neg (by decide), if_neg (by decide), if_neg (by decide), if_neg (by decide), if_neg (by decide), if_neg (by decide)] at h
        cases h
      · rw [if_neg (by decide), if_neg (by decide), if_neg (by decide), if_neg (by decide), if_neg (by decide), if_neg (by decide)] at h
        cases h
      · rw [if_neg (by decide), if_neg (by decide), if_neg (by decide), if_neg (by decide), if_neg (by decide), if_neg (by decide)] at h
        cases h
    · rw [if_neg h1]
      by_cases h2 : c = 45 ∧ r.headD 0 = 45
      · exfalso
        obtain ⟨rfl, h2⟩ := h2
        have hD : r.takeWhile isD = [] := by
          cases r with
          | nil => rfl
          | cons b q =>
            have : b = 45 := h2
            subst this
            rw [List.takeWhile_cons_of_neg (by decide)]
        rw [oneL, if_neg (by decide), if_neg (by decide), if_neg (by decide), if_pos rfl, h2, if_neg (by decide)] at h
        unfold negL intL at h
        rw [if_pos (.inl hD)] at h
        cases h
      · rw [if_neg h2]
theorem right_one {t : TokL} (h : rightL t = true) : oneL (toldL t) = some (t, (toldL t).length) := by
  unfold rightL at h
  exact (of_decide_eq_true h).2.2.2.2
theorem tell_cons (t : TokL) (ts : List TokL) : tellL (t :: ts) = toldL t ++ (if ts = [] then [] else 32 :: tellL ts) := by
  unfold tellL
  cases ts with
  | nil => simp [Lib.join_one]
  | cons u us =>
    rw [if_neg (by simp)]
    simp only [List.map_cons]
    rw [Lib.join_cons, Lib.join_cons]
    simp [Lib.joinTail]
theorem tell_one {t : TokL} {ts : List TokL} (h : rightL t = true) : oneL (tellL (t :: ts)) = some (t, (toldL t).length) := by
  obtain ⟨-, -, -, o4⟩ := one_told (right_one h)
  rw [tell_cons]
  refine o4 _ ?_
  split
  · exact stop_nil
  · exact stop_cons (.inl rfl)
/-- Tokens that may be told are lexed out of what is told of them. -/
theorem lex_tell : ∀ (ts : List TokL) (f p : Nat), (∀ t ∈ ts, rightL t = true) → (tellL ts).length ≤ f → ∃ qs, lexL f p (tellL ts) = some qs ∧ qs.map (·.1) = ts
  | [], f, p, _, _ => ⟨[], by show lexL f p [] = some []; rw [lexL], rfl⟩
  | t :: ts, f, p, hr, hf => by
    have ho := tell_one (ts := ts) (hr t (by simp))
    obtain ⟨o1, o2, o3, o4⟩ := one_told ho
    obtain ⟨f, rfl⟩ : ∃ q, f = q + 1 := ⟨f - 1, by omega⟩
    obtain ⟨c, r, hcr⟩ : ∃ c r, tellL (t :: ts) = c :: r := by
      cases hq : tellL (t :: ts) with
      | nil => rw [hq, List.length_nil] at o3; omega
      | cons c r => exact ⟨c, r, rfl⟩
    have hdrop : (c :: r).drop (toldL t).length = if ts = [] then [] else 32 :: tellL ts := by
      rw [← hcr, tell_cons, List.drop_left' rfl]
    have hlen : (tellL (t :: ts)).length = (toldL t).length + (if ts = [] then [] else 32 :: tellL ts).length := by rw [tell_cons, List.length_append]
    rw [hcr] at ho ⊢
    rw [lexL, ho]
    simp only []
    rw [hdrop]
    cases ts with
    | nil =>
      rw [if_pos rfl, blankM_nil, Nat.add_zero, hdrop, if_pos rfl, lexL]
      exact ⟨_, rfl, rfl⟩
    | cons u us =>
      rw [if_neg (by simp)] at hdrop hlen
      rw [if_neg (by simp)]
      have hb : blankM false (32 :: tellL (u :: us)) = 1 := by
        rw [blankM, if_pos (.inl rfl), blank_of_one (tell_one (ts := us) (hr u (by simp)))]
      have hdd : (c :: r).drop ((toldL t).length + 1) = tellL (u :: us) := by rw [← List.drop_drop, hdrop]; rfl
      rw [hb, hdd]
      obtain ⟨qs, h1, h2⟩ := lex_tell (u :: us) f (p + ((toldL t).length + 1)) (fun x hx => hr x (by simp [hx])) (by simp only [List.length_cons] at hlen; omega)
      rw [h1]
      exact ⟨_, rfl, by simp [h2]⟩
theorem source_tell {ts : List TokL} (hr : ∀ t ∈ ts, rightL t = true) : ∃ qs, sourceL (tellL ts) = some qs ∧ qs.map (·.1) = ts := by
  have hb : blankM false (tellL ts) = 0 := by
    cases ts with
    | nil => rfl
    | cons t ts => exact blank_of_one (tell_one (hr t (by simp)))
  unfold sourceL
  rw [hb, List.drop_zero]
  exact lex_tell ts _ 0 hr (Nat.le_refl _)
/-- What is lexed may be told, and takes no more than it took. -/
theorem lexL_told : ∀ (f p : Nat) (l : List UInt8) (ts : List (TokL × Nat)), lexL f p l = some ts → (∀ x ∈ ts, ∃ l' m, oneL l' = some (x.1, m)) ∧ ((ts.map fun x => (toldL x.1).length).sum ≤ l.length)
  | f, p, [], ts, h => by
    rw [lexL] at h
    obtain rfl := Option.some.inj h
    exact ⟨fun x hx => (by cases hx), by simp⟩
  | 0, p, c :: r, ts, h => by rw [lexL] at h; cases h
  | f + 1, p, c :: r, ts, h => by
    rw [lexL] at h
    split at h
    · cases h
    · rename_i t n ho
      obtain ⟨o1, o2, o3, o4⟩ := one_told ho
      rw [Option.map_eq_some_iff] at h
      obtain ⟨ts', h', rfl⟩ := h
      obtain ⟨i1, i2⟩ := lexL_told f _ _ ts' h'
      rw [List.length_drop] at i2
      have hl := (right_of_one ho).2
      have hb := blankM_le ((c :: r).drop n) false
      rw [List.length_drop] at hb
      refine ⟨fun x hx => ?_, ?_⟩
      · rcases List.mem_cons.1 hx with rfl | hx
        · exact ⟨_, _, ho⟩
        · exact i1 x hx
      · simp only [List.map_cons, List.sum_cons]
        omega
theorem source_told {L : List UInt8} {ts : List (TokL × Nat)} (h : sourceL L = some ts) : (∀ x ∈ ts, ∃ l' m, oneL l' = some (x.1, m)) ∧ ((ts.map fun x => (toldL x.1).length).sum ≤ L.length) := by
  obtain ⟨h1, h2⟩ := lexL_told _ _ _ _ h
  rw [List.length_drop] at h2
  exact ⟨h1, by omega⟩
theorem ok_mk {x : TokL × Nat} {l : List UInt8} {m : Nat} (h : oneL l = some (x.1, m)) : okTok (mkTok x) := by
  obtain ⟨⟨kd, t, n⟩, p⟩ := x
  obtain ⟨k1, k2, k3⟩ := one_kind h
  have hr := one_rng h
  exact ⟨by show (B t).size ≤ 100000; rw [sz_B]; omega, by show -9223372036854775808 ≤ n; omega, by show n ≤ 9223372036854775807; omega⟩
end Go.Proofs.YtaikpnenegifnaaGreatDoor
