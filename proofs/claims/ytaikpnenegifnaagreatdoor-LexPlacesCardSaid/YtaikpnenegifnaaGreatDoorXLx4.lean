import Derived.Test.YtaikpnenegifnaaGreatDoorG0
import Derived.Test.YtaikpnenegifnaaGreatDoorXLx3
-- written by wip/xp.py, a program of this project's session, over the kit's printer
namespace Go.Proofs.YtaikpnenegifnaaGreatDoor.XL
open Go.RowKit Go.Proofs.YtaikpnenegifnaaGreatDoorW.PrintWords Go.Proofs.YtaikpnenegifnaaGreatDoorW.PrintLast Go.Proofs.YtaikpnenegifnaaGreatDoorW.PrintMore
attribute [local go_sem] max2_int min2_int max_two min_two max_three min_three max_four min_four   -- for this text's walks alone
set_option linter.unusedVariables false
set_option linter.unusedSimpArgs false

/-! ### touchstoneref06_text: function 59 -/
mutual
def touchstoneref06_text.l0 : Nat → ByteArray → Int → ByteArray → Int → Option (Int × ByteArray × Int × Int × Int)
  | 0, _, _, _, _ => none
  | k + 1, x0, x1, x6, x7 => if x7 < (x0.size : Int) then (if 0 ≤ x7 then (if (bt x0 x7) = 34 then (if (x6.size : Int) > 1000 then (some (0, (⟨#[]⟩ : ByteArray), 0, 0, 0)) else (some (5, x6, 0, 0, wrap64 ((wrap64 (x7 + 1)) - x1)))) else (if (bt x0 x7) < 32 then (touchstoneref06_text.j1 k x0 x1 x6 x7 true) else (touchstoneref06_text.j1 k x0 x1 x6 x7 (decide ((bt x0 x7) > 126))))) else (none)) else (some (0, (⟨#[]⟩ : ByteArray), 0, 0, 0))
def touchstoneref06_text.j1 : Nat → ByteArray → Int → ByteArray → Int → Bool → Option (Int × ByteArray × Int × Int × Int)
  | 0, _, _, _, _, _ => none
  | k + 1, x0, x1, x6, x7, x39 => if x39 = true then (some (0, (⟨#[]⟩ : ByteArray), 0, 0, 0)) else (if 0 ≤ x7 then (if x7 < (x0.size : Int) then (if (bt x0 x7) = 92 then (if (wrap64 (x7 + 1)) = (x0.size : Int) then (some (0, (⟨#[]⟩ : ByteArray), 0, 0, 0)) else (if 0 ≤ (wrap64 (x7 + 1)) then (if (wrap64 (x7 + 1)) < (x0.size : Int) then (if (bt x0 (wrap64 (x7 + 1))) = 92 then (touchstoneref06_text.j2 k x0 x1 x6 (wrap64 (x7 + 1)) (bt x0 (wrap64 (x7 + 1))) ((bt x0 (wrap64 (x7 + 1))) == 92)) else (touchstoneref06_text.j2 k x0 x1 x6 (wrap64 (x7 + 1)) (bt x0 (wrap64 (x7 + 1))) ((bt x0 (wrap64 (x7 + 1))) == 34))) else (none)) else (none))) else (if x7 ≤ (wrap64 (x7 + 1)) then (if (wrap64 (x7 + 1)) ≤ (x0.size : Int) then (if x6.size + (x0.extract (x7 : Int).toNat ((wrap64 (x7 + 1)) : Int).toNat).size ≤ 9223372036854775807 then (touchstoneref06_text.l0 k x0 x1 (x6 ++ (x0.extract (x7 : Int).toNat ((wrap64 (x7 + 1)) : Int).toNat)) (wrap64 (x7 + 1))) else (none)) else (none)) else (none))) else (none)) else (none))
def touchstoneref06_text.j2 : Nat → ByteArray → Int → ByteArray → Int → Int → Bool → Option (Int × ByteArray × Int × Int × Int)
  | 0, _, _, _, _, _, _ => none
  | k + 1, x0, x1, x6, x7, x61, x63 => if x63 = true then (if 0 ≤ x7 then (if x7 ≤ (wrap64 (x7 + 1)) then (if (wrap64 (x7 + 1)) ≤ (x0.size : Int) then (if x6.size + (x0.extract (x7 : Int).toNat ((wrap64 (x7 + 1)) : Int).toNat).size ≤ 9223372036854775807 then (touchstoneref06_text.l0 k x0 x1 (x6 ++ (x0.extract (x7 : Int).toNat ((wrap64 (x7 + 1)) : Int).toNat)) (wrap64 (x7 + 1))) else (none)) else (none)) else (none)) else (none)) else (if x61 = 110 then (if x6.size + 1 ≤ 9223372036854775807 then (touchstoneref06_text.l0 k x0 x1 (x6 ++ (⟨#[10]⟩ : ByteArray)) (wrap64 (x7 + 1))) else (none)) else (if x61 = 116 then (if x6.size + 1 ≤ 9223372036854775807 then (touchstoneref06_text.l0 k x0 x1 (x6 ++ (⟨#[9]⟩ : ByteArray)) (wrap64 (x7 + 1))) else (none)) else (some (0, (⟨#[]⟩ : ByteArray), 0, 0, 0))))
end
def touchstoneref06_text.f (k : Nat) (a0 : ByteArray) (a1 : Int) : Option (Int × ByteArray × Int × Int × Int) := touchstoneref06_text.l0 k a0 a1 (⟨#[]⟩ : ByteArray) (wrap64 (a1 + 1))
theorem touchstoneref06_text.mono_l : ∀ k, (∀ y0 y1 y2 y3, LeO (touchstoneref06_text.l0 k y0 y1 y2 y3) (touchstoneref06_text.l0 (k + 1) y0 y1 y2 y3)) ∧ (∀ y0 y1 y2 y3 y4, LeO (touchstoneref06_text.j1 k y0 y1 y2 y3 y4) (touchstoneref06_text.j1 (k + 1) y0 y1 y2 y3 y4)) ∧ (∀ y0 y1 y2 y3 y4 y5, LeO (touchstoneref06_text.j2 k y0 y1 y2 y3 y4 y5) (touchstoneref06_text.j2 (k + 1) y0 y1 y2 y3 y4 y5))
  | 0 => ⟨fun _ _ _ _ r h => by simp [touchstoneref06_text.l0] at h, fun _ _ _ _ _ r h => by simp [touchstoneref06_text.j1] at h, fun _ _ _ _ _ _ r h => by simp [touchstoneref06_text.j2] at h⟩
  | k + 1 => by
    obtain ⟨ih0, ih1, ih2⟩ := touchstoneref06_text.mono_l k
    refine ⟨?_, ?_, ?_⟩
    · intro y0 y1 y2 y3
      unfold touchstoneref06_text.l0
      repeat' first
      | (with_reducible exact ih0 _ _ _ _)
      | (with_reducible exact ih1 _ _ _ _ _)
      | (with_reducible exact ih2 _ _ _ _ _ _)
      | (with_reducible exact LeO.refl _)
      | (with_reducible exact LeO.none _)
      | (with_reducible refine LeO.ite ?_ ?_)
      | (with_reducible refine LeO.bind ?_ (fun _ => ?_))
      | exact ih0 _ _ _ _
      | exact ih1 _ _ _ _ _
      | exact ih2 _ _ _ _ _ _
      | exact LeO.none _
      | refine LeO.ite ?_ ?_
      | refine LeO.bind ?_ (fun _ => ?_)
    · intro y0 y1 y2 y3 y4
      unfold touchstoneref06_text.j1
      repeat' first
      | (with_reducible exact ih0 _ _ _ _)
      | (with_reducible exact ih1 _ _ _ _ _)
      | (with_reducible exact ih2 _ _ _ _ _ _)
      | (with_reducible exact LeO.refl _)
      | (with_reducible exact LeO.none _)
      | (with_reducible refine LeO.ite ?_ ?_)
      | (with_reducible refine LeO.bind ?_ (fun _ => ?_))
      | exact ih0 _ _ _ _
      | exact ih1 _ _ _ _ _
      | exact ih2 _ _ _ _ _ _
      | exact LeO.none _
      | refine LeO.ite ?_ ?_
      | refine LeO.bind ?_ (fun _ => ?_)
    · intro y0 y1 y2 y3 y4 y5
      unfold touchstoneref06_text.j2
      repeat' first
      | (with_reducible exact ih0 _ _ _ _)
      | (with_reducible exact ih1 _ _ _ _ _)
      | (with_reducible exact ih2 _ _ _ _ _ _)
      | (with_reducible exact LeO.refl _)
      | (with_reducible exact LeO.none _)
      | (with_reducible refine LeO.ite ?_ ?_)
      | (with_reducible refine LeO.bind ?_ (fun _ => ?_))
      | exact ih0 _ _ _ _
      | exact ih1 _ _ _ _ _
      | exact ih2 _ _ _ _ _ _
      | exact LeO.none _
      | refine LeO.ite ?_ ?_
      | refine LeO.bind ?_ (fun _ => ?_)
theorem touchstoneref06_text.mono : ∀ a0 a1 k, LeO (touchstoneref06_text.f k a0 a1) (touchstoneref06_text.f (k + 1) a0 a1) := by
  intro a0 a1 k
  obtain ⟨ih0, ih1, ih2⟩ := touchstoneref06_text.mono_l k
  unfold touchstoneref06_text.f
  repeat' first
      | (with_reducible exact ih0 _ _ _ _)
      | (with_reducible exact ih1 _ _ _ _ _)
      | (with_reducible exact ih2 _ _ _ _ _ _)
      | (with_reducible exact LeO.refl _)
      | (with_reducible exact LeO.none _)
      | (with_reducible refine LeO.ite ?_ ?_)
      | (with_reducible refine LeO.bind ?_ (fun _ => ?_))
      | exact ih0 _ _ _ _
      | exact ih1 _ _ _ _ _
      | exact ih2 _ _ _ _ _ _
      | exact LeO.none _
      | refine LeO.ite ?_ ?_
      | refine LeO.bind ?_ (fun _ => ?_)
set_option maxHeartbeats 8000000 in
set_option maxRecDepth 100000 in
theorem touchstoneref06_text.calls (k : Nat) (a0 : ByteArray) (a1 : Int) (r1 : Int) (r2 : ByteArray) (r3 : Int) (r4 : Int) (r5 : Int) (w : World) (h : touchstoneref06_text.f k a0 a1 = some (r1, r2, r3, r4, r5)) :
    Calls Tryz.prog 59 #[.string a0, .int .i64 a1] w fun e w' => e = .returned (.tuple #[.agg #[.int .i64 r1, .string r2, .int .i64 r3, .int .i64 r4], .int .i64 r5]) ∧ Below w.heap.size w w' := by
  have hu32 := Tryz.underlying32
  have HB := Aside0.mk (Below.refl w.heap.size w)
  have H : (touchstoneref06_text.l0 k a0 a1 (⟨#[]⟩ : ByteArray) (wrap64 (a1 + 1))) = some (r1, r2, r3, r4, r5) := h
  clear h
  have H' := Aside0.mk H
  clear H
  go_enter Tryz.func59, Tryz.ntmps59
  go_wp2_with (first | ((with_reducible refine gate_dst (N := 4) rfl ?_); refine box_event ?hg (N := 4) ?hd (cs := #[.int .i64 0, .string (⟨#[]⟩ : ByteArray), .int .i64 0, .int .i64 0]) (t := 32) ?hr ?_; (case hd => rfl); (case hg => rfl); (case hr => first | (go_simp; done) | (go_simp; rfl)); intro gb275 hg w3 hbox hb; have n0_ := Aside0.mk (below_step (by repeat (first | (with_reducible first | exact HB.out | apply below_alloc | apply pw_below_drewN | apply below_drew1) | exact HB.out)) hb); have n1_ := Aside0.mk (hbox); have n2_ := Aside0.mk ((by rw [hg]; exact (below_size (by repeat (first | (with_reducible first | exact HB.out | apply below_alloc | apply pw_below_drewN | apply below_drew1) | exact HB.out))) : w.heap.size ≤ gb275)); have n3_ := Aside0.mk ((by rw [hg]; exact (below_size (by repeat (first | (with_reducible first | exact HB.out | apply below_alloc | apply pw_below_drewN | apply below_drew1) | exact HB.out))) : w.heap.size ≤ gb275)); clear HB; have HB := n0_; have BK275 := n1_; have GW275 := n2_; have GE275 := n3_; clear n0_ n1_ n2_ n3_; clear hb hbox hg))
  go_loopg [6, 7] k (fun kq v6 v7 w' => ∃ (x6_1 : ByteArray) (x7_1 : Int) (x276000_1 : Int) (x276001_1 : ByteArray) (x276002_1 : Int) (x276003_1 : Int), v6 = .string x6_1 ∧ v7 = .int .i64 x7_1 ∧ Aside0 (touchstoneref06_text.l0 kq a0 a1 x6_1 x7_1 = some (r1, r2, r3, r4, r5)) ∧ Aside0 (kq ≤ k) ∧ Aside0 (w'.heap[gb275]? = some (.cells #[.int .i64 x276000_1, .string x276001_1, .int .i64 x276002_1, .int .i64 x276003_1] 32 (0, 0))) ∧ Aside0 (Below w.heap.size w w'))
  case atStart => exact ⟨((⟨#[]⟩ : ByteArray)), (wrap64 (a1 + 1)), (0), ((⟨#[]⟩ : ByteArray)), (0), (0), (by first | rfl | (simp; done) | (simp [*]; done)), (by first | rfl | (simp; done) | (simp [*]; done)), H', ⟨Nat.le_refl _⟩, ⟨by (with_reducible repeat (first | refine blk_drewN ?_ _ | refine blk_drew ?_ | refine blk_alloc ?_ _)); exact BK275.out⟩, ⟨by repeat (first | (with_reducible first | exact HB.out | apply below_alloc | apply pw_below_drewN | apply below_drew1 | refine below_set ?_ GE275.out) | exact HB.out)⟩⟩
  case round =>
   clear H'
   try clear p2
   obtain ⟨x6_1, x7_1, x276000_1, x276001_1, x276002_1, x276003_1, rfl, rfl, HA, HK1, BK275, HB⟩ := hrel
   cases gk with
   | zero => exact absurd HA.out (by simp [touchstoneref06_text.l0])
   | succ k1 =>
    have H := HA.out
    clear HA
    simp only [touchstoneref06_text.l0] at H
    by_cases c4 : x7_1 < (a0.size : Int)
    ·rw [if_pos c4] at H
     have c4b0 : decide (x7_1 < (a0.size : Int)) = true := decide_eq_true c4
     clear c4
     by_cases c5 : 0 ≤ x7_1
     ·rw [if_pos c5] at H
      have c5b0 : decide (0 ≤ x7_1) = true := decide_eq_true c5
      clear c5
      by_cases c7 : (bt a0 x7_1) = 34
      ·rw [if_pos c7] at H
       have c7b0 : ((bt a0 x7_1) == 34) = true := beq_iff_eq.mpr c7
       have c7b1 : ((bt a0 x7_1) != 34) = false := bne_eq_false_iff_eq.mpr c7
       clear c7
       by_cases c8 : (x6_1.size : Int) > 1000
       ·rw [if_pos c8] at H
        have c8b0 : decide (1000 < (x6_1.size : Int)) = true := decide_eq_true c8
        have c8b1 : decide (1000 < x6_1.size) = true := decide_eq_true (by omega)
        clear c8
        simp only [Option.some.injEq, Prod.mk.injEq] at H
        obtain ⟨rfl, rfl, rfl, rfl, rfl⟩ := H
        have p6 : 0 ≤ (x7_1 : Int) := of_decide_eq_true (by first | (with_reducible assumption) | assumption)
        have q6 : x7_1 < (a0.size : Int) := of_decide_eq_true (by first | (with_reducible assumption) | assumption)
        have hx6 := bt_at a0 x7_1
        replace p6 := eq_true p6
        replace q6 := eq_true q6
        have hcz9_0 : wr.cell? ⟨gb275, 0, none⟩ = some (.int .i64 x276000_1) := (blk_cell BK275.out 0).trans rfl
        have hcz9_1 : wr.cell? ⟨gb275, 1, none⟩ = some (.string x276001_1) := (blk_cell BK275.out 1).trans rfl
        have hcz9_2 : wr.cell? ⟨gb275, 2, none⟩ = some (.int .i64 x276002_1) := (blk_cell BK275.out 2).trans rfl
        have hcz9_3 : wr.cell? ⟨gb275, 3, none⟩ = some (.int .i64 x276003_1) := (blk_cell BK275.out 3).trans rfl
        have hfz9_0 := blk_frozen BK275.out 0
        have hfz9_1 := blk_frozen BK275.out 1
        have hfz9_2 := blk_frozen BK275.out 2
        have hfz9_3 := blk_frozen BK275.out 3
        go_wp2
        refine bodyPost_ret (results_ct rfl _ _ gb275 32 #[.int .i64 0, .string (⟨#[]⟩ : ByteArray), .int .i64 0, .int .i64 0] (0, 0) _ rfl (by (with_reducible repeat (first | refine blk_drewN ?_ _ | refine blk_drew ?_ | refine blk_alloc ?_ _)); refine blk_put (cs := #[.int .i64 0, .string (⟨#[]⟩ : ByteArray), .int .i64 0, .int .i64 x276003_1]) ?_ 3 _ rfl; (with_reducible repeat (first | refine blk_drewN ?_ _ | refine blk_drew ?_ | refine blk_alloc ?_ _)); refine blk_put (cs := #[.int .i64 0, .string (⟨#[]⟩ : ByteArray), .int .i64 x276002_1, .int .i64 x276003_1]) ?_ 2 _ rfl; (with_reducible repeat (first | refine blk_drewN ?_ _ | refine blk_drew ?_ | refine blk_alloc ?_ _)); refine blk_put (cs := #[.int .i64 0, .string x276001_1, .int .i64 x276002_1, .int .i64 x276003_1]) ?_ 1 _ rfl; (with_reducible repeat (first | refine blk_drewN ?_ _ | refine blk_drew ?_ | refine blk_alloc ?_ _)); refine blk_put (cs := #[.int .i64 x276000_1, .string x276001_1, .int .i64 x276002_1, .int .i64 x276003_1]) ?_ 0 _ rfl; (with_reducible repeat (first | refine blk_drewN ?_ _ | refine blk_drew ?_ | refine blk_alloc ?_ _)); exact BK275.out) Tryz.underlying32 rfl (by kernel_rfl)) rfl ?_
        exact ⟨by first | rfl | (simp [errW_none, errW_some] <;> rfl) | (simp [*, errW_none, errW_some] <;> rfl), by repeat (first | (with_reducible first | exact HB.out | apply below_alloc | apply pw_below_drewN | apply below_drew1 | refine below_set ?_ GE275.out) | exact HB.out)⟩
       ·rw [if_neg c8] at H
        have c8b0 : decide (1000 < (x6_1.size : Int)) = false := decide_eq_false c8
        have c8b1 : decide (1000 < x6_1.size) = false := decide_eq_false (by omega)
        clear c8
        simp only [Option.some.injEq, Prod.mk.injEq] at H
        obtain ⟨rfl, rfl, rfl, rfl, rfl⟩ := H
        have p6 : 0 ≤ (x7_1 : Int) := of_decide_eq_true (by first | (with_reducible assumption) | assumption)
        have q6 : x7_1 < (a0.size : Int) := of_decide_eq_true (by first | (with_reducible assumption) | assumption)
        have hx6 := bt_at a0 x7_1
        replace p6 := eq_true p6
        replace q6 := eq_true q6
        have hcz10_0 : wr.cell? ⟨gb275, 0, none⟩ = some (.int .i64 x276000_1) := (blk_cell BK275.out 0).trans rfl
        have hcz10_1 : wr.cell? ⟨gb275, 1, none⟩ = some (.string x276001_1) := (blk_cell BK275.out 1).trans rfl
        have hcz10_2 : wr.cell? ⟨gb275, 2, none⟩ = some (.int .i64 x276002_1) := (blk_cell BK275.out 2).trans rfl
        have hcz10_3 : wr.cell? ⟨gb275, 3, none⟩ = some (.int .i64 x276003_1) := (blk_cell BK275.out 3).trans rfl
        have hfz10_0 := blk_frozen BK275.out 0
        have hfz10_1 := blk_frozen BK275.out 1
        have hfz10_2 := blk_frozen BK275.out 2
        have hfz10_3 := blk_frozen BK275.out 3
        go_wp2
        refine bodyPost_ret (results_ct rfl _ _ gb275 32 #[.int .i64 5, .string x6_1, .int .i64 0, .int .i64 0] (0, 0) _ rfl (by (with_reducible repeat (first | refine blk_drewN ?_ _ | refine blk_drew ?_ | refine blk_alloc ?_ _)); refine blk_put (cs := #[.int .i64 5, .string x6_1, .int .i64 0, .int .i64 x276003_1]) ?_ 3 _ rfl; (with_reducible repeat (first | refine blk_drewN ?_ _ | refine blk_drew ?_ | refine blk_alloc ?_ _)); refine blk_put (cs := #[.int .i64 5, .string x6_1, .int .i64 x276002_1, .int .i64 x276003_1]) ?_ 2 _ rfl; (with_reducible repeat (first | refine blk_drewN ?_ _ | refine blk_drew ?_ | refine blk_alloc ?_ _)); refine blk_put (cs := #[.int .i64 5, .string x276001_1, .int .i64 x276002_1, .int .i64 x276003_1]) ?_ 1 _ rfl; (with_reducible repeat (first | refine blk_drewN ?_ _ | refine blk_drew ?_ | refine blk_alloc ?_ _)); refine blk_put (cs := #[.int .i64 x276000_1, .string x276001_1, .int .i64 x276002_1, .int .i64 x276003_1]) ?_ 0 _ rfl; (with_reducible repeat (first | refine blk_drewN ?_ _ | refine blk_drew ?_ | refine blk_alloc ?_ _)); exact BK275.out) Tryz.underlying32 rfl (by kernel_rfl)) rfl ?_
        exact ⟨by first | rfl | (simp [errW_none, errW_some] <;> rfl) | (simp [*, errW_none, errW_some] <;> rfl), by repeat (first | (with_reducible first | exact HB.out | apply below_alloc | apply pw_below_drewN | apply below_drew1 | refine below_set ?_ GE275.out) | exact HB.out)⟩
      ·rw [if_neg c7] at H
       have c7b0 : ((bt a0 x7_1) == 34) = false := beq_eq_false_iff_ne.mpr c7
       have c7b1 : ((bt a0 x7_1) != 34) = true := bne_iff_ne.mpr c7
       have HC11 := Aside0.mk H
       clear H
       have p6 : 0 ≤ (x7_1 : Int) := of_decide_eq_true (by first | (with_reducible assumption) | assumption)
       have q6 : x7_1 < (a0.size : Int) := of_decide_eq_true (by first | (with_reducible assumption) | assumption)
       have hx6 := bt_at a0 x7_1
       replace p6 := eq_true p6
       replace q6 := eq_true q6
       go_upto_region 9 with (fail)
       go_cut [39] (fun v39 wc => ∃ (kq : Nat) (x39_10 : Bool), v39 = .bool x39_10 ∧ Aside0 (touchstoneref06_text.j1 kq a0 a1 x6_1 x7_1 x39_10 = some (r1, r2, r3, r4, r5)) ∧ Aside0 (kq ≤ k1) ∧ Aside0 (wc.heap[gb275]? = some (.cells #[.int .i64 x276000_1, .string x276001_1, .int .i64 x276002_1, .int .i64 x276003_1] 32 (0, 0))) ∧ Aside0 (Below w.heap.size w wc))
       case first =>
        have H := HC11.out
        clear HC11
        by_cases c13 : (bt a0 x7_1) < 32
        ·rw [if_pos c13] at H
         have c13b0 : decide ((bt a0 x7_1) < 32) = true := decide_eq_true c13
         clear c13
         (first | rw [c13b0] | (simp only [i64_w, i32_w]; rw [c13b0]) | rw [c13b2] | skip)
         have H' := Aside0.mk H
         clear H
         have p12 : 0 ≤ (x7_1 : Int) := of_decide_eq_true (by first | (with_reducible assumption) | assumption)
         have q12 : x7_1 < (a0.size : Int) := of_decide_eq_true (by first | (with_reducible assumption) | assumption)
         have hx12 := bt_at a0 x7_1
         replace p12 := eq_true p12
         replace q12 := eq_true q12
         go_wp2
         go_meet
         case rel => exact ⟨_, (true), (by first | rfl | (simp; done) | (simp [*]; done)), H', ⟨by have := HK1.out; first | omega | exact Nat.le_refl _⟩, ⟨by (with_reducible repeat (first | refine blk_drewN ?_ _ | refine blk_drew ?_ | refine blk_alloc ?_ _)); exact BK275.out⟩, ⟨by repeat (first | (with_reducible first | exact HB.out | apply below_alloc | apply pw_below_drewN | apply below_drew1 | refine below_set ?_ GE275.out) | exact HB.out)⟩⟩
        ·rw [if_neg c13] at H
         have c13b0 : decide ((bt a0 x7_1) < 32) = false := decide_eq_false c13
         clear c13
         (first | rw [c13b0] | (simp only [i64_w, i32_w]; rw [c13b0]) | rw [c13b2] | skip)
         have H' := Aside0.mk H
         clear H
         have p12 : 0 ≤ (x7_1 : Int) := of_decide_eq_true (by first | (with_reducible assumption) | assumption)
         have q12 : x7_1 < (a0.size : Int) := of_decide_eq_true (by first | (with_reducible assumption) | assumption)
         have hx12 := bt_at a0 x7_1
         replace p12 := eq_true p12
         replace q12 := eq_true q12
         have p14 : 0 ≤ (x7_1 : Int) := of_decide_eq_true (by first | (with_reducible assumption) | assumption)
         have q14 : x7_1 < (a0.size : Int) := of_decide_eq_true (by first | (with_reducible assumption) | assumption)
         have hx14 := bt_at a0 x7_1
         replace p14 := eq_true p14
         replace q14 := eq_true q14
         go_wp2
         go_meet
         case rel => exact ⟨_, (decide ((bt a0 x7_1) > 126)), (by first | rfl | (simp; done) | (simp [*]; done)), H', ⟨by have := HK1.out; first | omega | exact Nat.le_refl _⟩, ⟨by (with_reducible repeat (first | refine blk_drewN ?_ _ | refine blk_drew ?_ | refine blk_alloc ?_ _)); exact BK275.out⟩, ⟨by repeat (first | (with_reducible first | exact HB.out | apply below_alloc | apply pw_below_drewN | apply below_drew1 | refine below_set ?_ GE275.out) | exact HB.out)⟩⟩
       case rest =>
        clear HC11
        try clear c1
        try clear p1
        try clear q1
        try clear hx1
        try clear p2
        try clear c4
        try clear c4b0
        try clear c5
        try clear c5b0
        try clear p6
        try clear q6
        try clear hx6
        try clear c7
        try clear c7b0
        try clear c7b1
        try clear c8
        try clear c8b0
        try clear c8b1
        try clear p12
        try clear q12
        try clear hx12
        try clear c13
        try clear c13b0
        try clear c13b2
        try clear p14
        try clear q14
        try clear hx14
        try clear hcz10_0
        try clear hcz10_1
        try clear hcz10_2
        try clear hcz10_3
        try clear hcz9_0
        try clear hcz9_1
        try clear hcz9_2
        try clear hcz9_3
        try clear hfz10_0
        try clear hfz10_1
        try clear hfz10_2
        try clear hfz10_3
        try clear hfz9_0
        try clear hfz9_1
        try clear hfz9_2
        try clear hfz9_3
        try clear p12
        try clear p14
        try clear p2
        try clear p6
        try clear q12
        try clear q14
        try clear q6
        obtain ⟨kq, x39_10, rfl, HA, HJ10, BK275, HB⟩ := hcut
        cases kq with
        | zero => exact absurd HA.out (by simp [touchstoneref06_text.j1])
        | succ kj10 =>
         have H := HA.out
         clear HA
         simp only [touchstoneref06_text.j1] at H
         by_cases c15 : x39_10 = true
         ·subst c15
          have H1 : (some (0, (⟨#[]⟩ : ByteArray), 0, 0, 0)) = some (r1, r2, r3, r4, r5) := by rw [if_pos rfl] at H; exact H
          clear H
          have H := H1
          clear H1
          simp only [Option.some.injEq, Prod.mk.injEq] at H
          obtain ⟨rfl, rfl, rfl, rfl, rfl⟩ := H
          have hcz16_0 : wc.cell? ⟨gb275, 0, none⟩ = some (.int .i64 x276000_1) := (blk_cell BK275.out 0).trans rfl
          have hcz16_1 : wc.cell? ⟨gb275, 1, none⟩ = some (.string x276001_1) := (blk_cell BK275.out 1).trans rfl
          have hcz16_2 : wc.cell? ⟨gb275, 2, none⟩ = some (.int .i64 x276002_1) := (blk_cell BK275.out 2).trans rfl
          have hcz16_3 : wc.cell? ⟨gb275, 3, none⟩ = some (.int .i64 x276003_1) := (blk_cell BK275.out 3).trans rfl
          have hfz16_0 := blk_frozen BK275.out 0
          have hfz16_1 := blk_frozen BK275.out 1
          have hfz16_2 := blk_frozen BK275.out 2
          have hfz16_3 := blk_frozen BK275.out 3
          go_wp2
          refine bodyPost_ret (results_ct rfl _ _ gb275 32 #[.int .i64 0, .string (⟨#[]⟩ : ByteArray), .int .i64 0, .int .i64 0] (0, 0) _ rfl (by (with_reducible repeat (first | refine blk_drewN ?_ _ | refine blk_drew ?_ | refine blk_alloc ?_ _)); refine blk_put (cs := #[.int .i64 0, .string (⟨#[]⟩ : ByteArray), .int .i64 0, .int .i64 x276003_1]) ?_ 3 _ rfl; (with_reducible repeat (first | refine blk_drewN ?_ _ | refine blk_drew ?_ | refine blk_alloc ?_ _)); refine blk_put (cs := #[.int .i64 0, .string (⟨#[]⟩ : ByteArray), .int .i64 x276002_1, .int .i64 x276003_1]) ?_ 2 _ rfl; (with_reducible repeat (first | refine blk_drewN ?_ _ | refine blk_drew ?_ | refine blk_alloc ?_ _)); refine blk_put (cs := #[.int .i64 0, .string x276001_1, .int .i64 x276002_1, .int .i64 x276003_1]) ?_ 1 _ rfl; (with_reducible repeat (first | refine blk_drewN ?_ _ | refine blk_drew ?_ | refine blk_alloc ?_ _)); refine blk_put (cs := #[.int .i64 x276000_1, .string x276001_1, .int .i64 x276002_1, .int .i64 x276003_1]) ?_ 0 _ rfl; (with_reducible repeat (first | refine blk_drewN ?_ _ | refine blk_drew ?_ | refine blk_alloc ?_ _)); exact BK275.out) Tryz.underlying32 rfl (by kernel_rfl)) rfl ?_
          exact ⟨by first | rfl | (simp [errW_none, errW_some] <;> rfl) | (simp [*, errW_none, errW_some] <;> rfl), by repeat (first | (with_reducible first | exact HB.out | apply below_alloc | apply pw_below_drewN | apply below_drew1 | refine below_set ?_ GE275.out) | exact HB.out)⟩
         ·replace c15 := Bool.eq_false_iff.mpr c15
          subst c15
          have H1 : (if 0 ≤ x7_1 then (if x7_1 < (a0.size : Int) then (if (bt a0 x7_1) = 92 then (if (wrap64 (x7_1 + 1)) = (a0.size : Int) then (some (0, (⟨#[]⟩ : ByteArray), 0, 0, 0)) else (if 0 ≤ (wrap64 (x7_1 + 1)) then (if (wrap64 (x7_1 + 1)) < (a0.size : Int) then (if (bt a0 (wrap64 (x7_1 + 1))) = 92 then (touchstoneref06_text.j2 kj10 a0 a1 x6_1 (wrap64 (x7_1 + 1)) (bt a0 (wrap64 (x7_1 + 1))) ((bt a0 (wrap64 (x7_1 + 1))) == 92)) else (touchstoneref06_text.j2 kj10 a0 a1 x6_1 (wrap64 (x7_1 + 1)) (bt a0 (wrap64 (x7_1 + 1))) ((bt a0 (wrap64 (x7_1 + 1))) == 34))) else (none)) else (none))) else (if x7_1 ≤ (wrap64 (x7_1 + 1)) then (if (wrap64 (x7_1 + 1)) ≤ (a0.size : Int) then (if x6_1.size + (a0.extract (x7_1 : Int).toNat ((wrap64 (x7_1 + 1)) : Int).toNat).size ≤ 9223372036854775807 then (touchstoneref06_text.l0 kj10 a0 a1 (x6_1 ++ (a0.extract (x7_1 : Int).toNat ((wrap64 (x7_1 + 1)) : Int).toNat)) (wrap64 (x7_1 + 1))) else (none)) else (none)) else (none))) else (none)) else (none)) = some (r1, r2, r3, r4, r5) := by rw [if_neg (show ¬ (false = true) by decide)] at H; exact H
          clear H
          have H := H1
          clear H1
          by_cases c17 : 0 ≤ x7_1
          ·rw [if_pos c17] at H
           have c17b0 : decide (0 ≤ x7_1) = true := decide_eq_true c17
           clear c17
           by_cases c18 : x7_1 < (a0.size : Int)
           ·rw [if_pos c18] at H
            have c18b0 : decide (x7_1 < (a0.size : Int)) = true := decide_eq_true c18
            clear c18
            by_cases c20 : (bt a0 x7_1) = 92
            ·rw [if_pos c20] at H
             have c20b0 : ((bt a0 x7_1) == 92) = true := beq_iff_eq.mpr c20
             have c20b1 : ((bt a0 x7_1) != 92) = false := bne_eq_false_iff_eq.mpr c20
             clear c20
             by_cases c21 : (wrap64 (x7_1 + 1)) = (a0.size : Int)
             ·rw [if_pos c21] at H
              have c21b0 : ((wrap64 (x7_1 + 1)) == (a0.size : Int)) = true := beq_iff_eq.mpr c21
              have c21b1 : ((wrap64 (x7_1 + 1)) != (a0.size : Int)) = false := bne_eq_false_iff_eq.mpr c21
              clear c21
              simp only [Option.some.injEq, Prod.mk.injEq] at H
              obtain ⟨rfl, rfl, rfl, rfl, rfl⟩ := H
              have p19 : 0 ≤ (x7_1 : Int) := of_decide_eq_true (by first | (with_reducible assumption) | assumption)
              have q19 : x7_1 < (a0.size : Int) := of_decide_eq_true (by first | (with_reducible assumption) | assumption)
              have hx19 := bt_at a0 x7_1
              replace p19 := eq_true p19
              replace q19 := eq_true q19
              have hcz22_0 : wc.cell? ⟨gb275, 0, none⟩ = some (.int .i64 x276000_1) := (blk_cell BK275.out 0).trans rfl
              have hcz22_1 : wc.cell? ⟨gb275, 1, none⟩ = some (.string x276001_1) := (blk_cell BK275.out 1).trans rfl
              have hcz22_2 : wc.cell? ⟨gb275, 2, none⟩ = some (.int .i64 x276002_1) := (blk_cell BK275.out 2).trans rfl
              have hcz22_3 : wc.cell? ⟨gb275, 3, none⟩ = some (.int .i64 x276003_1) := (blk_cell BK275.out 3).trans rfl
              have hfz22_0 := blk_frozen BK275.out 0
              have hfz22_1 := blk_frozen BK275.out 1
              have hfz22_2 := blk_frozen BK275.out 2
              have hfz22_3 := blk_frozen BK275.out 3
              go_wp2
              refine bodyPost_ret (results_ct rfl _ _ gb275 32 #[.int .i64 0, .string (⟨#[]⟩ : ByteArray), .int .i64 0, .int .i64 0] (0, 0) _ rfl (by (with_reducible repeat (first | refine blk_drewN ?_ _ | refine blk_drew ?_ | refine blk_alloc ?_ _)); refine blk_put (cs := #[.int .i64 0, .string (⟨#[]⟩ : ByteArray), .int .i64 0, .int .i64 x276003_1]) ?_ 3 _ rfl; (with_reducible repeat (first | refine blk_drewN ?_ _ | refine blk_drew ?_ | refine blk_alloc ?_ _)); refine blk_put (cs := #[.int .i64 0, .string (⟨#[]⟩ : ByteArray), .int .i64 x276002_1, .int .i64 x276003_1]) ?_ 2 _ rfl; (with_reducible repeat (first | refine blk_drewN ?_ _ | refine blk_drew ?_ | refine blk_alloc ?_ _)); refine blk_put (cs := #[.int .i64 0, .string x276001_1, .int .i64 x276002_1, .int .i64 x276003_1]) ?_ 1 _ rfl; (with_reducible repeat (first | refine blk_drewN ?_ _ | refine blk_drew ?_ | refine blk_alloc ?_ _)); refine blk_put (cs := #[.int .i64 x276000_1, .string x276001_1, .int .i64 x276002_1, .int .i64 x276003_1]) ?_ 0 _ rfl; (with_reducible repeat (first | refine blk_drewN ?_ _ | refine blk_drew ?_ | refine blk_alloc ?_ _)); exact BK275.out) Tryz.underlying32 rfl (by kernel_rfl)) rfl ?_
              exact ⟨by first | rfl | (simp [errW_none, errW_some] <;> rfl) | (simp [*, errW_none, errW_some] <;> rfl), by repeat (first | (with_reducible first | exact HB.out | apply below_alloc | apply pw_below_drewN | apply below_drew1 | refine below_set ?_ GE275.out) | exact HB.out)⟩
             ·rw [if_neg c21] at H
              have c21b0 : ((wrap64 (x7_1 + 1)) == (a0.size : Int)) = false := beq_eq_false_iff_ne.mpr c21
              have c21b1 : ((wrap64 (x7_1 + 1)) != (a0.size : Int)) = true := bne_iff_ne.mpr c21
              obtain ⟨ji23, hji23⟩ : ∃ j_ : Int, (wrap64 (x7_1 + 1)) = j_ := ⟨_, rfl⟩
              replace H : (if 0 ≤ (ji23) then (if (ji23) < (a0.size : Int) then (if (bt a0 (ji23)) = 92 then (touchstoneref06_text.j2 kj10 a0 a1 x6_1 ji23 (bt a0 (ji23)) ((bt a0 (ji23)) == 92)) else (touchstoneref06_text.j2 kj10 a0 a1 x6_1 ji23 (bt a0 (ji23)) ((bt a0 (ji23)) == 34))) else (none)) else (none)) = some (r1, r2, r3, r4, r5) := by first | (rw [hji23] at H; exact H) | (simp only [hji23] at H ⊢; exact H)
              (try rw [hji23] at c21b0)
              (try rw [hji23] at c21b1)
              have hji23w : (IntKind.i64.wrap (x7_1 + 1)) = ji23 := (i64_w _).trans hji23
              by_cases c24 : 0 ≤ (ji23)
              ·rw [if_pos c24] at H
               have c24b0 : decide (0 ≤ (ji23)) = true := decide_eq_true c24
               clear c24
               by_cases c25 : (ji23) < (a0.size : Int)
               ·rw [if_pos c25] at H
                have c25b0 : decide ((ji23) < (a0.size : Int)) = true := decide_eq_true c25
                clear c25
                have HC27 := Aside0.mk H
                clear H
                have p19 : 0 ≤ (x7_1 : Int) := of_decide_eq_true (by first | (with_reducible assumption) | assumption)
                have q19 : x7_1 < (a0.size : Int) := of_decide_eq_true (by first | (with_reducible assumption) | assumption)
                have hx19 := bt_at a0 x7_1
                replace p19 := eq_true p19
                replace q19 := eq_true q19
                have p26 : 0 ≤ ((ji23) : Int) := of_decide_eq_true (by first | (with_reducible assumption) | assumption)
                have q26 : (ji23) < (a0.size : Int) := of_decide_eq_true (by first | (with_reducible assumption) | assumption)
                have hx26 := bt_at a0 (ji23)
                replace p26 := eq_true p26
                replace q26 := eq_true q26
                go_upto_if 63 with (fail)
                go_cut [63] (fun v63 wc => ∃ (kq : Nat) (x63_26 : Bool), v63 = .bool x63_26 ∧ Aside0 (touchstoneref06_text.j2 kq a0 a1 x6_1 ji23 (bt a0 (ji23)) x63_26 = some (r1, r2, r3, r4, r5)) ∧ Aside0 (kq ≤ kj10) ∧ Aside0 (wc.heap[gb275]? = some (.cells #[.int .i64 x276000_1, .string x276001_1, .int .i64 x276002_1, .int .i64 x276003_1] 32 (0, 0))) ∧ Aside0 (Below w.heap.size w wc))
                case first =>
                 have H := HC27.out
                 clear HC27
                 by_cases c28 : (bt a0 (ji23)) = 92
                 ·rw [if_pos c28] at H
                  have c28b0 : ((bt a0 (ji23)) == 92) = true := beq_iff_eq.mpr c28
                  have c28b1 : ((bt a0 (ji23)) != 92) = false := bne_eq_false_iff_eq.mpr c28
                  clear c28
                  (first | rw [c28b0] | (simp only [i64_w, i32_w]; rw [c28b0]) | rw [c28b2] | skip)
                  have H' := Aside0.mk H
                  clear H
                  go_wp2
                  go_meet
                  case rel => exact ⟨_, (((bt a0 (ji23)) == 92)), (by first | rfl | (simp; done) | (simp only [← hji23] <;> (first | rfl | (simp; done))) | (congr 1; symm; assumption) | (congr 1; assumption) | (simp [*]; done)), H', ⟨by have := HK1.out; have := HJ10.out; first | omega | exact Nat.le_refl _⟩, ⟨by (with_reducible repeat (first | refine blk_drewN ?_ _ | refine blk_drew ?_ | refine blk_alloc ?_ _)); exact BK275.out⟩, ⟨by repeat (first | (with_reducible first | exact HB.out | apply below_alloc | apply pw_below_drewN | apply below_drew1 | refine below_set ?_ GE275.out) | exact HB.out)⟩⟩
                 ·rw [if_neg c28] at H
                  have c28b0 : ((bt a0 (ji23)) == 92) = false := beq_eq_false_iff_ne.mpr c28
                  have c28b1 : ((bt a0 (ji23)) != 92) = true := bne_iff_ne.mpr c28
                  (first | rw [c28b0] | (simp only [i64_w, i32_w]; rw [c28b0]) | rw [c28b2] | skip)
                  have H' := Aside0.mk H
                  clear H
                  go_wp2
                  go_meet
                  case rel => exact ⟨_, (((bt a0 (ji23)) == 34)), (by first | rfl | (simp; done) | (simp only [← hji23] <;> (first | rfl | (simp; done))) | (congr 1; symm; assumption) | (congr 1; assumption) | (simp [*]; done)), H', ⟨by have := HK1.out; have := HJ10.out; first | omega | exact Nat.le_refl _⟩, ⟨by (with_reducible repeat (first | refine blk_drewN ?_ _ | refine blk_drew ?_ | refine blk_alloc ?_ _)); exact BK275.out⟩, ⟨by repeat (first | (with_reducible first | exact HB.out | apply below_alloc | apply pw_below_drewN | apply below_drew1 | refine below_set ?_ GE275.out) | exact HB.out)⟩⟩
                case rest =>
                 clear HC27
                 try clear c1
                 try clear p1
                 try clear q1
                 try clear hx1
                 try clear c2
                 try clear p2
                 try clear q2
                 try clear hx2
                 try clear c4
                 try clear c4b0
                 try clear c5
                 try clear c5b0
                 try clear p6
                 try clear q6
                 try clear hx6
                 try clear c7
                 try clear c7b0
                 try clear c7b1
                 try clear c8
                 try clear c8b0
                 try clear c8b1
                 try clear p12
                 try clear q12
                 try clear hx12
                 try clear c13
                 try clear c13b0
                 try clear c13b2
                 try clear p14
                 try clear q14
                 try clear hx14
                 try clear c15
                 try clear c17
                 try clear c17b0
                 try clear c18
                 try clear c18b0
                 try clear p19
                 try clear q19
                 try clear hx19
                 try clear c20
                 try clear c20b0
                 try clear c20b1
                 try clear c21
                 try clear c21b0
                 try clear c21b1
                 try clear c24
                 try clear c24b0
                 try clear c25
                 try clear c25b0
                 try clear p26
                 try clear q26
                 try clear hx26
                 try clear c28
                 try clear c28b0
                 try clear c28b1
                 try clear c28b2
                 try clear hcz10_0
                 try clear hcz10_1
                 try clear hcz10_2
                 try clear hcz10_3
                 try clear hcz16_0
                 try clear hcz16_1
                 try clear hcz16_2
                 try clear hcz16_3
                 try clear hcz22_0
                 try clear hcz22_1
                 try clear hcz22_2
                 try clear hcz22_3
                 try clear hcz9_0
                 try clear hcz9_1
                 try clear hcz9_2
                 try clear hcz9_3
                 try clear hfz10_0
                 try clear hfz10_1
                 try clear hfz10_2
                 try clear hfz10_3
                 try clear hfz16_0
                 try clear hfz16_1
                 try clear hfz16_2
                 try clear hfz16_3
                 try clear hfz22_0
                 try clear hfz22_1
                 try clear hfz22_2
                 try clear hfz22_3
                 try clear hfz9_0
                 try clear hfz9_1
                 try clear hfz9_2
                 try clear hfz9_3
                 try clear p1
                 try clear p12
                 try clear p14
                 try clear p19
                 try clear p2
                 try clear p26
                 try clear p6
                 try clear q1
                 try clear q12
                 try clear q14
                 try clear q19
                 try clear q26
                 try clear q6
                 obtain ⟨kq, x63_26, rfl, HA, HJ26, BK275, HB⟩ := hcut
                 cases kq with
                 | zero => exact absurd HA.out (by simp [touchstoneref06_text.j2])
                 | succ kj26 =>
                  have H := HA.out
                  clear HA
                  simp only [touchstoneref06_text.j2] at H
                  by_cases c29 : x63_26 = true
                  ·subst c29
                   have H1 : (if 0 ≤ ji23 then (if ji23 ≤ (wrap64 (ji23 + 1)) then (if (wrap64 (ji23 + 1)) ≤ (a0.size : Int) then (if x6_1.size + (a0.extract (ji23 : Int).toNat ((wrap64 (ji23 + 1)) : Int).toNat).size ≤ 9223372036854775807 then (touchstoneref06_text.l0 kj26 a0 a1 (x6_1 ++ (a0.extract (ji23 : Int).toNat ((wrap64 (ji23 + 1)) : Int).toNat)) (wrap64 (ji23 + 1))) else (none)) else (none)) else (none)) else (none)) = some (r1, r2, r3, r4, r5) := by rw [if_pos rfl] at H; exact H
                   clear H
                   have H := H1
                   clear H1
                   by_cases c30 : 0 ≤ ji23
                   ·rw [if_pos c30] at H
                    have c30b0 := eq_true c30
                    have c30b1 : decide (0 ≤ ji23) = true := decide_eq_true c30
                    clear c30
                    by_cases c31 : ji23 ≤ (wrap64 (ji23 + 1))
                    ·rw [if_pos c31] at H
                     have c31b0 := eq_true c31
                     have c31b1 : decide (ji23 ≤ (wrap64 (ji23 + 1))) = true := decide_eq_true c31
                     by_cases c32 : (wrap64 (ji23 + 1)) ≤ (a0.size : Int)
                     ·rw [if_pos c32] at H
                      have c32b0 := eq_true c32
                      have c32b1 : decide ((wrap64 (ji23 + 1)) ≤ (a0.size : Int)) = true := decide_eq_true c32
                      by_cases c33 : x6_1.size + (a0.extract (ji23 : Int).toNat ((wrap64 (ji23 + 1)) : Int).toNat).size ≤ 9223372036854775807
                      ·rw [if_pos c33] at H
                       have c33b0 := eq_true c33
                       have c33b1 : decide (x6_1.size + (a0.extract (ji23 : Int).toNat ((wrap64 (ji23 + 1)) : Int).toNat).size ≤ 9223372036854775807) = true := decide_eq_true c33
                       try have c33b3 : (9223372036854775807 < x6_1.size + ((a0.extract (ji23 : Int).toNat ((wrap64 (ji23 + 1)) : Int).toNat).size)) = False := eq_false (by have z_ := c33; simp only [ByteArray.size_append'] at z_; exact Nat.not_lt.2 z_)
                       try have c33b2 : (9223372036854775807 < x6_1.size + (a0.extract (ji23 : Int).toNat ((wrap64 (ji23 + 1)) : Int).toNat).size) = False := eq_false (Nat.not_lt.2 c33)
                       have H' := Aside0.mk H
                       clear H
                       go_wp2
                       go_roundg kj26
                       case measure => have := HK1.out; have := HJ10.out; have := HJ26.out; omega
                       case rel => exact ⟨(x6_1 ++ (a0.extract (ji23 : Int).toNat ((wrap64 (ji23 + 1)) : Int).toNat)), (wrap64 (ji23 + 1)), (x276000_1), (x276001_1), (x276002_1), (x276003_1), (by first | rfl | (simp; done) | (simp only [← hji23] <;> (first | rfl | (simp; done))) | (congr 1; symm; assumption) | (congr 1; assumption) | (simp [*]; done)), (by first | rfl | (simp; done) | (simp only [← hji23] <;> (first | rfl | (simp; done))) | (congr 1; symm; assumption) | (congr 1; assumption) | (simp [*]; done)), H', ⟨by have := HK1.out; have := HJ10.out; have := HJ26.out; omega⟩, ⟨by (with_reducible repeat (first | refine blk_drewN ?_ _ | refine blk_drew ?_ | refine blk_alloc ?_ _)); exact BK275.out⟩, ⟨by repeat (first | (with_reducible first | exact HB.out | apply below_alloc | apply pw_below_drewN | apply below_drew1 | refine below_set ?_ GE275.out) | exact HB.out)⟩⟩
                      ·rw [if_neg c33] at H
                       exact absurd H (by simp)
                     ·rw [if_neg c32] at H
                      exact absurd H (by simp)
                    ·rw [if_neg c31] at H
                     exact absurd H (by simp)
                   ·rw [if_neg c30] at H
                    exact absurd H (by simp)
                  ·replace c29 := Bool.eq_false_iff.mpr c29
                   subst c29
                   have H1 : (if (bt a0 (ji23)) = 110 then (if x6_1.size + 1 ≤ 9223372036854775807 then (touchstoneref06_text.l0 kj26 a0 a1 (x6_1 ++ (⟨#[10]⟩ : ByteArray)) (wrap64 (ji23 + 1))) else (none)) else (if (bt a0 (ji23)) = 116 then (if x6_1.size + 1 ≤ 9223372036854775807 then (touchstoneref06_text.l0 kj26 a0 a1 (x6_1 ++ (⟨#[9]⟩ : ByteArray)) (wrap64 (ji23 + 1))) else (none)) else (some (0, (⟨#[]⟩ : ByteArray), 0, 0, 0)))) = some (r1, r2, r3, r4, r5) := by rw [if_neg (show ¬ (false = true) by decide)] at H; exact H
                   clear H
                   have H := H1
                   clear H1
                   by_cases c34 : (bt a0 (ji23)) = 110
                   ·rw [if_pos c34] at H
                    have c34b0 : ((bt a0 (ji23)) == 110) = true := beq_iff_eq.mpr c34
                    have c34b1 : ((bt a0 (ji23)) != 110) = false := bne_eq_false_iff_eq.mpr c34
                    clear c34
                    by_cases c35 : x6_1.size + 1 ≤ 9223372036854775807
                    ·rw [if_pos c35] at H
                     have c35b0 := eq_true c35
                     have c35b1 : decide (x6_1.size + 1 ≤ 9223372036854775807) = true := decide_eq_true c35
                     try have c35b2 : (9223372036854775807 < x6_1.size + 1) = False := eq_false (Nat.not_lt.2 c35)
                     have H' := Aside0.mk H
                     clear H
                     go_wp2
                     go_roundg kj26
                     case measure => have := HK1.out; have := HJ10.out; have := HJ26.out; omega
                     case rel => exact ⟨(x6_1 ++ (⟨#[10]⟩ : ByteArray)), (wrap64 (ji23 + 1)), (x276000_1), (x276001_1), (x276002_1), (x276003_1), (by first | rfl | (simp; done) | (simp [*]; done)), (by first | rfl | (simp; done) | (simp only [← hji23] <;> (first | rfl | (simp; done))) | (congr 1; symm; assumption) | (congr 1; assumption) | (simp [*]; done)), H', ⟨by have := HK1.out; have := HJ10.out; have := HJ26.out; omega⟩, ⟨by (with_reducible repeat (first | refine blk_drewN ?_ _ | refine blk_drew ?_ | refine blk_alloc ?_ _)); exact BK275.out⟩, ⟨by repeat (first | (with_reducible first | exact HB.out | apply below_alloc | apply pw_below_drewN | apply below_drew1 | refine below_set ?_ GE275.out) | exact HB.out)⟩⟩
                    ·rw [if_neg c35] at H
                     exact absurd H (by simp)
                   ·rw [if_neg c34] at H
                    have c34b0 : ((bt a0 (ji23)) == 110) = false := beq_eq_false_iff_ne.mpr c34
                    have c34b1 : ((bt a0 (ji23)) != 110) = true := bne_iff_ne.mpr c34
                    by_cases c36 : (bt a0 (ji23)) = 116
                    ·rw [if_pos c36] at H
                     have c36b0 : ((bt a0 (ji23)) == 116) = true := beq_iff_eq.mpr c36
                     have c36b1 : ((bt a0 (ji23)) != 116) = false := bne_eq_false_iff_eq.mpr c36
                     clear c36
                     by_cases c37 : x6_1.size + 1 ≤ 9223372036854775807
                     ·rw [if_pos c37] at H
                      have c37b0 := eq_true c37
                      have c37b1 : decide (x6_1.size + 1 ≤ 9223372036854775807) = true := decide_eq_true c37
                      try have c37b2 : (9223372036854775807 < x6_1.size + 1) = False := eq_false (Nat.not_lt.2 c37)
                      have H' := Aside0.mk H
                      clear H
                      go_wp2
                      go_roundg kj26
                      case measure => have := HK1.out; have := HJ10.out; have := HJ26.out; omega
                      case rel => exact ⟨(x6_1 ++ (⟨#[9]⟩ : ByteArray)), (wrap64 (ji23 + 1)), (x276000_1), (x276001_1), (x276002_1), (x276003_1), (by first | rfl | (simp; done) | (simp [*]; done)), (by first | rfl | (simp; done) | (simp only [← hji23] <;> (first | rfl | (simp; done))) | (congr 1; symm; assumption) | (congr 1; assumption) | (simp [*]; done)), H', ⟨by have := HK1.out; have := HJ10.out; have := HJ26.out; omega⟩, ⟨by (with_reducible repeat (first | refine blk_drewN ?_ _ | refine blk_drew ?_ | refine blk_alloc ?_ _)); exact BK275.out⟩, ⟨by repeat (first | (with_reducible first | exact HB.out | apply below_alloc | apply pw_below_drewN | apply below_drew1 | refine below_set ?_ GE275.out) | exact HB.out)⟩⟩
                     ·rw [if_neg c37] at H
                      exact absurd H (by simp)
                    ·rw [if_neg c36] at H
                     have c36b0 : ((bt a0 (ji23)) == 116) = false := beq_eq_false_iff_ne.mpr c36
                     have c36b1 : ((bt a0 (ji23)) != 116) = true := bne_iff_ne.mpr c36
                     simp only [Option.some.injEq, Prod.mk.injEq] at H
                     obtain ⟨rfl, rfl, rfl, rfl, rfl⟩ := H
                     have hcz38_0 : wc.cell? ⟨gb275, 0, none⟩ = some (.int .i64 x276000_1) := (blk_cell BK275.out 0).trans rfl
                     have hcz38_1 : wc.cell? ⟨gb275, 1, none⟩ = some (.string x276001_1) := (blk_cell BK275.out 1).trans rfl
                     have hcz38_2 : wc.cell? ⟨gb275, 2, none⟩ = some (.int .i64 x276002_1) := (blk_cell BK275.out 2).trans rfl
                     have hcz38_3 : wc.cell? ⟨gb275, 3, none⟩ = some (.int .i64 x276003_1) := (blk_cell BK275.out 3).trans rfl
                     have hfz38_0 := blk_frozen BK275.out 0
                     have hfz38_1 := blk_frozen BK275.out 1
                     have hfz38_2 := blk_frozen BK275.out 2
                     have hfz38_3 := blk_frozen BK275.out 3
                     go_wp2
                     refine bodyPost_ret (results_ct rfl _ _ gb275 32 #[.int .i64 0, .string (⟨#[]⟩ : ByteArray), .int .i64 0, .int .i64 0] (0, 0) _ rfl (by (with_reducible repeat (first | refine blk_drewN ?_ _ | refine blk_drew ?_ | refine blk_alloc ?_ _)); refine blk_put (cs := #[.int .i64 0, .string (⟨#[]⟩ : ByteArray), .int .i64 0, .int .i64 x276003_1]) ?_ 3 _ rfl; (with_reducible repeat (first | refine blk_drewN ?_ _ | refine blk_drew ?_ | refine blk_alloc ?_ _)); refine blk_put (cs := #[.int .i64 0, .string (⟨#[]⟩ : ByteArray), .int .i64 x276002_1, .int .i64 x276003_1]) ?_ 2 _ rfl; (with_reducible repeat (first | refine blk_drewN ?_ _ | refine blk_drew ?_ | refine blk_alloc ?_ _)); refine blk_put (cs := #[.int .i64 0, .string x276001_1, .int .i64 x276002_1, .int .i64 x276003_1]) ?_ 1 _ rfl; (with_reducible repeat (first | refine blk_drewN ?_ _ | refine blk_drew ?_ | refine blk_alloc ?_ _)); refine blk_put (cs := #[.int .i64 x276000_1, .string x276001_1, .int .i64 x276002_1, .int .i64 x276003_1]) ?_ 0 _ rfl; (with_reducible repeat (first | refine blk_drewN ?_ _ | refine blk_drew ?_ | refine blk_alloc ?_ _)); exact BK275.out) Tryz.underlying32 rfl (by kernel_rfl)) rfl ?_
                     exact ⟨by first | rfl | (simp [errW_none, errW_some] <;> rfl) | (simp only [← hji23]; first | rfl | (simp [errW_none, errW_some] <;> rfl)) | (simp [*, errW_none, errW_some] <;> rfl), by repeat (first | (with_reducible first | exact HB.out | apply below_alloc | apply pw_below_drewN | apply below_drew1 | refine below_set ?_ GE275.out) | exact HB.out)⟩
               ·rw [if_neg c25] at H
                exact absurd H (by simp)
              ·rw [if_neg c24] at H
               exact absurd H (by simp)
            ·rw [if_neg c20] at H
             have c20b0 : ((bt a0 x7_1) == 92) = false := beq_eq_false_iff_ne.mpr c20
             have c20b1 : ((bt a0 x7_1) != 92) = true := bne_iff_ne.mpr c20
             have c39b0 := eq_true (of_decide_eq_true (by first | (with_reducible assumption) | assumption) : 0 ≤ x7_1)
             by_cases c40 : x7_1 ≤ (wrap64 (x7_1 + 1))
             ·rw [if_pos c40] at H
              have c40b0 := eq_true c40
              have c40b1 : decide (x7_1 ≤ (wrap64 (x7_1 + 1))) = true := decide_eq_true c40
              by_cases c41 : (wrap64 (x7_1 + 1)) ≤ (a0.size : Int)
              ·rw [if_pos c41] at H
               have c41b0 := eq_true c41
               have c41b1 : decide ((wrap64 (x7_1 + 1)) ≤ (a0.size : Int)) = true := decide_eq_true c41
               by_cases c42 : x6_1.size + (a0.extract (x7_1 : Int).toNat ((wrap64 (x7_1 + 1)) : Int).toNat).size ≤ 9223372036854775807
               ·rw [if_pos c42] at H
                have c42b0 := eq_true c42
                have c42b1 : decide (x6_1.size + (a0.extract (x7_1 : Int).toNat ((wrap64 (x7_1 + 1)) : Int).toNat).size ≤ 9223372036854775807) = true := decide_eq_true c42
                try have c42b3 : (9223372036854775807 < x6_1.size + ((a0.extract (x7_1 : Int).toNat ((wrap64 (x7_1 + 1)) : Int).toNat).size)) = False := eq_false (by have z_ := c42; simp only [ByteArray.size_append'] at z_; exact Nat.not_lt.2 z_)
                try have c42b2 : (9223372036854775807 < x6_1.size + (a0.extract (x7_1 : Int).toNat ((wrap64 (x7_1 + 1)) : Int).toNat).size) = False := eq_false (Nat.not_lt.2 c42)
                have H' := Aside0.mk H
                clear H
                have p19 : 0 ≤ (x7_1 : Int) := of_decide_eq_true (by first | (with_reducible assumption) | assumption)
                have q19 : x7_1 < (a0.size : Int) := of_decide_eq_true (by first | (with_reducible assumption) | assumption)
                have hx19 := bt_at a0 x7_1
                replace p19 := eq_true p19
                replace q19 := eq_true q19
                go_wp2
                go_roundg kj10
                case measure => have := HK1.out; have := HJ10.out; omega
                case rel => exact ⟨(x6_1 ++ (a0.extract (x7_1 : Int).toNat ((wrap64 (x7_1 + 1)) : Int).toNat)), (wrap64 (x7_1 + 1)), (x276000_1), (x276001_1), (x276002_1), (x276003_1), (by first | rfl | (simp; done) | (simp [*]; done)), (by first | rfl | (simp; done) | (simp [*]; done)), H', ⟨by have := HK1.out; have := HJ10.out; omega⟩, ⟨by (with_reducible repeat (first | refine blk_drewN ?_ _ | refine blk_drew ?_ | refine blk_alloc ?_ _)); exact BK275.out⟩, ⟨by repeat (first | (with_reducible first | exact HB.out | apply below_alloc | apply pw_below_drewN | apply below_drew1 | refine below_set ?_ GE275.out) | exact HB.out)⟩⟩
               ·rw [if_neg c42] at H
                exact absurd H (by simp)
              ·rw [if_neg c41] at H
               exact absurd H (by simp)
             ·rw [if_neg c40] at H
              exact absurd H (by simp)
           ·rw [if_neg c18] at H
            exact absurd H (by simp)
          ·rw [if_neg c17] at H
           exact absurd H (by simp)
     ·rw [if_neg c5] at H
      exact absurd H (by simp)
    ·rw [if_neg c4] at H
     have c4b0 : decide (x7_1 < (a0.size : Int)) = false := decide_eq_false c4
     clear c4
     simp only [Option.some.injEq, Prod.mk.injEq] at H
     obtain ⟨rfl, rfl, rfl, rfl, rfl⟩ := H
     have hcz43_0 : wr.cell? ⟨gb275, 0, none⟩ = some (.int .i64 x276000_1) := (blk_cell BK275.out 0).trans rfl
     have hcz43_1 : wr.cell? ⟨gb275, 1, none⟩ = some (.string x276001_1) := (blk_cell BK275.out 1).trans rfl
     have hcz43_2 : wr.cell? ⟨gb275, 2, none⟩ = some (.int .i64 x276002_1) := (blk_cell BK275.out 2).trans rfl
     have hcz43_3 : wr.cell? ⟨gb275, 3, none⟩ = some (.int .i64 x276003_1) := (blk_cell BK275.out 3).trans rfl
     have hfz43_0 := blk_frozen BK275.out 0
     have hfz43_1 := blk_frozen BK275.out 1
     have hfz43_2 := blk_frozen BK275.out 2
     have hfz43_3 := blk_frozen BK275.out 3
     go_wp2
     refine bodyPost_ret (results_ct rfl _ _ gb275 32 #[.int .i64 0, .string (⟨#[]⟩ : ByteArray), .int .i64 0, .int .i64 0] (0, 0) _ rfl (by (with_reducible repeat (first | refine blk_drewN ?_ _ | refine blk_drew ?_ | refine blk_alloc ?_ _)); refine blk_put (cs := #[.int .i64 0, .string (⟨#[]⟩ : ByteArray), .int .i64 0, .int .i64 x276003_1]) ?_ 3 _ rfl; (with_reducible repeat (first | refine blk_drewN ?_ _ | refine blk_drew ?_ | refine blk_alloc ?_ _)); refine blk_put (cs := #[.int .i64 0, .string (⟨#[]⟩ : ByteArray), .int .i64 x276002_1, .int .i64 x276003_1]) ?_ 2 _ rfl; (with_reducible repeat (first | refine blk_drewN ?_ _ | refine blk_drew ?_ | refine blk_alloc ?_ _)); refine blk_put (cs := #[.int .i64 0, .string x276001_1, .int .i64 x276002_1, .int .i64 x276003_1]) ?_ 1 _ rfl; (with_reducible repeat (first | refine blk_drewN ?_ _ | refine blk_drew ?_ | refine blk_alloc ?_ _)); refine blk_put (cs := #[.int .i64 x276000_1, .string x276001_1, .int .i64 x276002_1, .int .i64 x276003_1]) ?_ 0 _ rfl; (with_reducible repeat (first | refine blk_drewN ?_ _ | refine blk_drew ?_ | refine blk_alloc ?_ _)); exact BK275.out) Tryz.underlying32 rfl (by kernel_rfl)) rfl ?_
     exact ⟨by first | rfl | (simp [errW_none, errW_some] <;> rfl) | (simp [*, errW_none, errW_some] <;> rfl), by repeat (first | (with_reducible first | exact HB.out | apply below_alloc | apply pw_below_drewN | apply below_drew1 | refine below_set ?_ GE275.out) | exact HB.out)⟩

/-! ### touchstoneref06_digits: function 62 -/
def touchstoneref06_digits.l0 : Nat → ByteArray → Int → Int → Option (Int)
  | 0, _, _, _ => none
  | k + 1, x0, x1, x5 => if (wrap64 (x1 + x5)) < (x0.size : Int) then (if 0 ≤ (wrap64 (x1 + x5)) then ((touchstoneref06_digit.f (bt x0 (wrap64 (x1 + x5)))).bind fun t276 => (if t276 = true then (touchstoneref06_digits.l0 k x0 x1 (wrap64 (x5 + 1))) else (some x5))) else (none)) else (some x5)
def touchstoneref06_digits.f (k : Nat) (a0 : ByteArray) (a1 : Int) : Option (Int) := touchstoneref06_digits.l0 k a0 a1 0
theorem touchstoneref06_digits.mono_l : ∀ k, (∀ y0 y1 y2, LeO (touchstoneref06_digits.l0 k y0 y1 y2) (touchstoneref06_digits.l0 (k + 1) y0 y1 y2))
  | 0 => fun _ _ _ r h => by simp [touchstoneref06_digits.l0] at h
  | k + 1 => by
    have ih0 := touchstoneref06_digits.mono_l k
    · intro y0 y1 y2
      unfold touchstoneref06_digits.l0
      repeat' first
      | (with_reducible exact ih0 _ _ _)
      | (with_reducible exact LeO.refl _)
      | (with_reducible exact LeO.none _)
      | (with_reducible refine LeO.ite ?_ ?_)
      | (with_reducible refine LeO.bind ?_ (fun _ => ?_))
      | exact ih0 _ _ _
      | exact LeO.none _
      | refine LeO.ite ?_ ?_
      | refine LeO.bind ?_ (fun _ => ?_)
theorem touchstoneref06_digits.mono : ∀ a0 a1 k, LeO (touchstoneref06_digits.f k a0 a1) (touchstoneref06_digits.f (k + 1) a0 a1) := by
  intro a0 a1 k
  have ih0 := touchstoneref06_digits.mono_l k
  unfold touchstoneref06_digits.f
  repeat' first
      | (with_reducible exact ih0 _ _ _)
      | (with_reducible exact LeO.refl _)
      | (with_reducible exact LeO.none _)
      | (with_reducible refine LeO.ite ?_ ?_)
      | (with_reducible refine LeO.bind ?_ (fun _ => ?_))
      | exact ih0 _ _ _
      | exact LeO.none _
      | refine LeO.ite ?_ ?_
      | refine LeO.bind ?_ (fun _ => ?_)
set_option maxHeartbeats 8000000 in
set_option maxRecDepth 100000 in
theorem touchstoneref06_digits.calls (k : Nat) (a0 : ByteArray) (a1 : Int) (r : Int) (w : World) (h : touchstoneref06_digits.f k a0 a1 = some r) :
    Calls Tryz.prog 62 #[.string a0, .int .i64 a1] w fun e w' => e = .returned (.int .i64 r) ∧ Drawn0 w w' := by
  have H : (touchstoneref06_digits.l0 k a0 a1 0) = some r := h
  clear h
  have H' := Aside0.mk H
  clear H
  go_enter Tryz.func62, Tryz.ntmps62
  go_wp2
  go_loopg [5] k (fun kq v5 w' => ∃ (x5_1 : Int), v5 = .int .i64 x5_1 ∧ Aside0 (touchstoneref06_digits.l0 kq a0 a1 x5_1 = some r) ∧ Aside0 (kq ≤ k) ∧ Drawn0 w w')
  case atStart => exact ⟨(0), (by first | rfl | (simp; done) | (simp [*]; done)), H', ⟨Nat.le_refl _⟩, by repeat (first | exact Drawn0.refl _ | apply Drawn0.step)⟩
  case round =>
   clear H'
   try clear p2
   obtain ⟨x5_1, rfl, HA, HK1, ⟨m1, rfl⟩⟩ := hrel
   cases gk with
   | zero => exact absurd HA.out (by simp [touchstoneref06_digits.l0])
   | succ k1 =>
    have H := HA.out
    clear HA
    simp only [touchstoneref06_digits.l0] at H
    by_cases c3 : (wrap64 (a1 + x5_1)) < (a0.size : Int)
    ·rw [if_pos c3] at H
     have c3b0 : decide ((wrap64 (a1 + x5_1)) < (a0.size : Int)) = true := decide_eq_true c3
     clear c3
     obtain ⟨ji4, hji4⟩ : ∃ j_ : Int, (wrap64 (a1 + x5_1)) = j_ := ⟨_, rfl⟩
     replace H : (if 0 ≤ (ji4) then ((touchstoneref06_digit.f (bt a0 (ji4))).bind fun t276 => (if t276 = true then (touchstoneref06_digits.l0 k1 a0 a1 (wrap64 (x5_1 + 1))) else (some x5_1))) else (none)) = some r := by first | (rw [hji4] at H; exact H) | (simp only [hji4] at H ⊢; exact H)
     (try rw [hji4] at c3b0)
     have hji4w : (IntKind.i64.wrap (a1 + x5_1)) = ji4 := (i64_w _).trans hji4
     by_cases c5 : 0 ≤ (ji4)
     ·rw [if_pos c5] at H
      have c5b0 : decide (0 ≤ (ji4)) = true := decide_eq_true c5
      clear c5
      replace H := Option.bind_eq_some_iff.mp H
      obtain ⟨t276, A70, H⟩ := H
      replace H : (if t276 = true then (touchstoneref06_digits.l0 k1 a0 a1 (wrap64 (x5_1 + 1))) else (some x5_1)) = some r := H
      have A7 := Aside0.mk A70
      clear A70
      by_cases c8 : t276 = true
      ·subst c8
       have H1 : (touchstoneref06_digits.l0 k1 a0 a1 (wrap64 (x5_1 + 1))) = some r := by rw [if_pos rfl] at H; exact H
       clear H
       have H := H1
       clear H1
       have H' := Aside0.mk H
       clear H
       have p6 : 0 ≤ ((ji4) : Int) := of_decide_eq_true (by first | (with_reducible assumption) | assumption)
       have q6 : (ji4) < (a0.size : Int) := of_decide_eq_true (by first | (with_reducible assumption) | assumption)
       have hx6 := bt_at a0 (ji4)
       replace p6 := eq_true p6
       replace q6 := eq_true q6
       go_wp2_with (first | (go_at_call 60; (with_reducible refine (touchstoneref06_digit.calls (bt a0 (ji4)) true _ A7.out).mono ?_); rintro e w' ⟨rfl, ⟨nd, rfl⟩⟩))
       go_roundg k1
       case measure => have := HK1.out; omega
       case rel => exact ⟨(wrap64 (x5_1 + 1)), (by first | rfl | (simp; done) | (simp [*]; done)), H', ⟨by have := HK1.out; omega⟩, by repeat (first | exact Drawn0.refl _ | apply Drawn0.step)⟩
      ·replace c8 := Bool.eq_false_iff.mpr c8
       subst c8
       have H1 : (some x5_1) = some r := by rw [if_neg (show ¬ (false = true) by decide)] at H; exact H
       clear H
       have H := H1
       clear H1
       obtain rfl := Option.some.inj H
       have p6 : 0 ≤ ((ji4) : Int) := of_decide_eq_true (by first | (with_reducible assumption) | assumption)
       have q6 : (ji4) < (a0.size : Int) := of_decide_eq_true (by first | (with_reducible assumption) | assumption)
       have hx6 := bt_at a0 (ji4)
       replace p6 := eq_true p6
       replace q6 := eq_true q6
       go_wp2_with (first | (go_at_call 60; (with_reducible refine (touchstoneref06_digit.calls (bt a0 (ji4)) false _ A7.out).mono ?_); rintro e w' ⟨rfl, ⟨nd, rfl⟩⟩))
       go_ret
       exact ⟨by first | rfl | (simp; done) | (simp only [← hji4] <;> (first | rfl | (simp; done))) | (congr 1; symm; assumption) | (congr 1; assumption) | (simp [*]; done), by repeat (first | exact Drawn0.refl _ | apply Drawn0.step)⟩
     ·rw [if_neg c5] at H
      exact absurd H (by simp)
    ·rw [if_neg c3] at H
     have c3b0 : decide ((wrap64 (a1 + x5_1)) < (a0.size : Int)) = false := decide_eq_false c3
     clear c3
     obtain rfl := Option.some.inj H
     go_wp2
     go_ret
     exact ⟨by first | rfl | (simp; done) | (simp [*]; done), by repeat (first | exact Drawn0.refl _ | apply Drawn0.step)⟩

end Go.Proofs.YtaikpnenegifnaaGreatDoor.XL
