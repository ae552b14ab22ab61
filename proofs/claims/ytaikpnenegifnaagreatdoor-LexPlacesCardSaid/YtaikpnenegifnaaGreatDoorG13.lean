import Derived.Test.YtaikpnenegifnaaGreatDoorG0
import Derived.Test.YtaikpnenegifnaaGreatDoorXLx1
import Derived.Test.YtaikpnenegifnaaGreatDoorG12
import Derived.Test.YtaikpnenegifnaaGreatDoorHOneWL
import Derived.Test.YtaikpnenegifnaaGreatDoorG10
-- written by wip/xp.py, a program of this project's session, over the kit's printer
namespace Go.Proofs.YtaikpnenegifnaaGreatDoor.XL
open Go.RowKit Go.Proofs.YtaikpnenegifnaaGreatDoorW.PrintWords Go.Proofs.YtaikpnenegifnaaGreatDoorW.PrintLast Go.Proofs.YtaikpnenegifnaaGreatDoorW.PrintMore
attribute [local go_sem] max2_int min2_int max_two min_two max_three min_three max_four min_four   -- for this text's walks alone
set_option linter.unusedVariables false
set_option linter.unusedSimpArgs false

/-! ### lex_Tell: function 10 -/
def lex_Tell.l0 : Nat → List ByteArray → List (S32) → Int → Int → Option (ByteArray × Int)
  | 0, _, _, _, _ => none
  | k + 1, x4, x7, x8, x9 => if x9 < x8 then (if 0 ≤ x9 then (if x9 < (x7.length : Int) then ((lex_Right.f ((rd_T32 x7 x9).f0) ((rd_T32 x7 x9).f1) ((rd_T32 x7 x9).f2) ((rd_T32 x7 x9).f3)).bind fun t108 => (if t108 = true then ((lex_told.f ((rd_T32 x7 x9).f0) ((rd_T32 x7 x9).f1) ((rd_T32 x7 x9).f2) ((rd_T32 x7 x9).f3)).bind fun t109 => (if x4.length < 8796093022208 then (lex_Tell.l0 k (x4 ++ [t109]) x7 x8 (wrap64 (x9 + 1))) else (none))) else (some ((⟨#[]⟩ : ByteArray), 2)))) else (none)) else (none)) else ((strings_Join.f x4 (⟨#[32]⟩ : ByteArray)).bind fun t105 => (some (t105, 0)))
def lex_Tell.f (k : Nat) (l0 : List (S32)) : Option (ByteArray × Int) := lex_Tell.l0 k ([] : List ByteArray) l0 (l0.length : Int) 0
theorem lex_Tell.mono_l : ∀ k, (∀ y0 y1 y2 y3, LeO (lex_Tell.l0 k y0 y1 y2 y3) (lex_Tell.l0 (k + 1) y0 y1 y2 y3))
  | 0 => fun _ _ _ _ r h => by simp [lex_Tell.l0] at h
  | k + 1 => by
    have ih0 := lex_Tell.mono_l k
    · intro y0 y1 y2 y3
      unfold lex_Tell.l0
      repeat' first
      | (with_reducible exact ih0 _ _ _ _)
      | (with_reducible exact LeO.refl _)
      | (with_reducible exact LeO.none _)
      | (with_reducible refine LeO.ite ?_ ?_)
      | (with_reducible refine LeO.bind ?_ (fun _ => ?_))
      | exact ih0 _ _ _ _
      | exact LeO.none _
      | refine LeO.ite ?_ ?_
      | refine LeO.bind ?_ (fun _ => ?_)
theorem lex_Tell.mono : ∀ a0 k, LeO (lex_Tell.f k a0) (lex_Tell.f (k + 1) a0) := by
  intro a0 k
  have ih0 := lex_Tell.mono_l k
  unfold lex_Tell.f
  repeat' first
      | (with_reducible exact ih0 _ _ _ _)
      | (with_reducible exact LeO.refl _)
      | (with_reducible exact LeO.none _)
      | (with_reducible refine LeO.ite ?_ ?_)
      | (with_reducible refine LeO.bind ?_ (fun _ => ?_))
      | exact ih0 _ _ _ _
      | exact LeO.none _
      | refine LeO.ite ?_ ?_
      | refine LeO.bind ?_ (fun _ => ?_)
set_option maxHeartbeats 8000000 in
set_option maxRecDepth 100000 in
theorem lex_Tell.calls (k : Nat) (A0 : Option Addr) (c0 : Nat) (l0 : List (S32)) (r1 : ByteArray) (r2 : Int) (w : World) (hr0 : Kd.C k32 w A0 l0.length l0) (hc0 : l0.length ≤ c0) (hE : EnvOk w) (h : lex_Tell.f k l0 = some (r1, r2)) :
    Calls Tryz.prog 10 #[.slice A0 l0.length c0] w fun e w' => e = .returned (.tuple #[.string r1, .int .i64 r2]) ∧ Below w.heap.size w w' := by
  have hu32 := Tryz.underlying32
  have HE := Aside0.mk hE
  clear hE
  have HR0 := Aside0.mk hr0
  have HC0 := Aside0.mk hc0
  clear hr0 hc0
  have HB := Aside0.mk (Below.refl w.heap.size w)
  have H : (lex_Tell.l0 k ([] : List ByteArray) l0 (l0.length : Int) 0) = some (r1, r2) := h
  clear h
  have H' := Aside0.mk H
  clear H
  go_enter Tryz.func10, Tryz.ntmps10
  go_wp2
  go_loopg [4, 9] k (fun kq v4 v9 w' => ∃ (x4_1 : List ByteArray) (x9_1 : Int), v9 = .int .i64 x9_1 ∧ Aside0 (lex_Tell.l0 kq x4_1 l0 (l0.length : Int) x9_1 = some (r1, r2)) ∧ Aside0 (kq ≤ k) ∧ Aside0 (Kd.R Kd.string 9 w' w.heap.size (fun _ => True) v4 x4_1) ∧ Aside0 (Below w.heap.size w w'))
  case atStart => exact ⟨(([] : List ByteArray)), (0), (by first | rfl | (simp; done) | (simp [*]; done)), H', ⟨Nat.le_refl _⟩, ⟨by first | exact Kd.R_nil _ _ _ _ _ | exact Kd.N_nil _ _ _ _ _ | exact Kd.V_nil _ _ _ _ _ | exact Kd.Q_nil _ _ _ _ _ | exact Kd.S_nil _ _ _ _ _⟩, ⟨by repeat (first | (with_reducible first | exact HB.out | apply below_alloc | apply pw_below_drewN | apply below_drew1) | exact HB.out)⟩⟩
  case round =>
   clear H'
   try clear c1
   obtain ⟨x4_1, x9_1, rfl, HA, HK1, HO_4, HB⟩ := hrel
   cases gk with
   | zero => exact absurd HA.out (by simp [lex_Tell.l0])
   | succ k1 =>
    have H := HA.out
    clear HA
    simp only [lex_Tell.l0] at H
    by_cases c2 : x9_1 < (l0.length : Int)
    ·rw [if_pos c2] at H
     have c2b0 : decide (x9_1 < (l0.length : Int)) = true := decide_eq_true c2
     clear c2
     by_cases c3 : 0 ≤ x9_1
     ·rw [if_pos c3] at H
      have c3b0 : decide (0 ≤ x9_1) = true := decide_eq_true c3
      clear c3
      by_cases c4 : x9_1 < (l0.length : Int)
      ·rw [if_pos c4] at H
       have c4b0 : decide (x9_1 < (l0.length : Int)) = true := decide_eq_true c4
       clear c4
       replace H := Option.bind_eq_some_iff.mp H
       obtain ⟨t108, A50, H⟩ := H
       replace H : (if t108 = true then ((lex_told.f ((rd_T32 l0 x9_1).f0) ((rd_T32 l0 x9_1).f1) ((rd_T32 l0 x9_1).f2) ((rd_T32 l0 x9_1).f3)).bind fun t109 => (if x4_1.length < 8796093022208 then (lex_Tell.l0 k1 (x4_1 ++ [t109]) l0 (l0.length : Int) (wrap64 (x9_1 + 1))) else (none))) else (some ((⟨#[]⟩ : ByteArray), 2))) = some (r1, r2) := H
       have A5 := Aside0.mk A50
       clear A50
       by_cases c6 : t108 = true
       ·subst c6
        have H1 : ((lex_told.f ((rd_T32 l0 x9_1).f0) ((rd_T32 l0 x9_1).f1) ((rd_T32 l0 x9_1).f2) ((rd_T32 l0 x9_1).f3)).bind fun t109 => (if x4_1.length < 8796093022208 then (lex_Tell.l0 k1 (x4_1 ++ [t109]) l0 (l0.length : Int) (wrap64 (x9_1 + 1))) else (none))) = some (r1, r2) := by rw [if_pos rfl] at H; exact H
        clear H
        have H := H1
        clear H1
        replace H := Option.bind_eq_some_iff.mp H
        obtain ⟨t109, A70, H⟩ := H
        replace H : (if x4_1.length < 8796093022208 then (lex_Tell.l0 k1 (x4_1 ++ [t109]) l0 (l0.length : Int) (wrap64 (x9_1 + 1))) else (none)) = some (r1, r2) := H
        have A7 := Aside0.mk A70
        clear A70
        by_cases c8 : x4_1.length < 8796093022208
        ·rw [if_pos c8] at H
         have LMc8 := Aside0.mk c8
         clear c8
         obtain ⟨y110, hy110⟩ : ∃ y_ : List ByteArray, y_ = (x4_1 ++ [t109]) := ⟨_, rfl⟩
         replace H : (lex_Tell.l0 k1 y110 l0 (l0.length : Int) (wrap64 (x9_1 + 1))) = some (r1, r2) := by first | (rw [hy110]; with_reducible exact H) | (have H2_ := (Option.bind_some _ _).symm.trans H; rw [hy110]; with_reducible exact H2_) | (have H2_ := (Option.bind_some _ _).symm.trans H; with_reducible exact H2_) | with_reducible exact H | (rw [hy110]; exact H) | exact H
         have Ny110 := Aside0.mk hy110
         clear hy110
         have H' := Aside0.mk H
         clear H
         have p106 : 0 ≤ (x9_1 : Int) := of_decide_eq_true (by first | (with_reducible assumption) | assumption)
         have q106 : x9_1 < (l0.length : Int) := of_decide_eq_true (by first | (with_reducible assumption) | assumption)
         obtain ⟨ad106, e106, hx106_0, hx106_1, hx106_2, hx106_3⟩ := at_T32 HR0.out x9_1 p106 q106
         cases e106
         replace hx106_0 := (HB.out.cell (World.block_lt_of_cell? w _ hx106_0)).trans hx106_0
         replace hx106_1 := (HB.out.cell (World.block_lt_of_cell? w _ hx106_1)).trans hx106_1
         replace hx106_2 := (HB.out.cell (World.block_lt_of_cell? w _ hx106_2)).trans hx106_2
         replace hx106_3 := (HB.out.cell (World.block_lt_of_cell? w _ hx106_3)).trans hx106_3
         replace p106 := eq_true p106
         replace q106 := eq_true q106
         go_wp2_with (first | ((with_reducible refine gate_dst (N := 6) rfl ?_); refine box_event ?hg (N := 6) ?hd (cs := #[.int .i64 0, .string (⟨#[]⟩ : ByteArray), .int .i64 0, .int .i64 0]) (t := 32) ?hr ?_; (case hd => rfl); (case hg => rfl); (case hr => first | (go_simp; done) | (go_simp; rfl)); intro gb107 hg w9 hbox hb; have n0_ := Aside0.mk (Kd.R_below (by (with_reducible repeat (first | apply Kd.R_alloc | apply Kd.R_drewN | apply Kd.R_drew)); exact HO_4.out) hb); have n1_ := Aside0.mk (below_step (by repeat (first | (with_reducible first | exact HB.out | apply below_alloc | apply pw_below_drewN | apply below_drew1) | exact HB.out)) hb); have n2_ := Aside0.mk (hbox); have n3_ := Aside0.mk ((by rw [hg]; exact (below_size (by repeat (first | (with_reducible first | exact HB.out | apply below_alloc | apply pw_below_drewN | apply below_drew1) | exact HB.out))) : w.heap.size ≤ gb107)); have n4_ := Aside0.mk ((by rw [hg]; exact (below_size (by repeat (first | (with_reducible first | exact HB.out | apply below_alloc | apply pw_below_drewN | apply below_drew1) | exact HB.out))) : w.heap.size ≤ gb107)); clear HO_4; clear HB; have HO_4 := n0_; have HB := n1_; have BK107 := n2_; have GW107 := n3_; have GE107 := n4_; clear n0_ n1_ n2_ n3_ n4_; clear hb hbox hg; have hcz10_0 : w9.cell? ⟨gb107, 0, none⟩ = some (.int .i64 0) := (blk_cell BK107.out 0).trans rfl; have hcz10_1 : w9.cell? ⟨gb107, 1, none⟩ = some (.string (⟨#[]⟩ : ByteArray)) := (blk_cell BK107.out 1).trans rfl; have hcz10_2 : w9.cell? ⟨gb107, 2, none⟩ = some (.int .i64 0) := (blk_cell BK107.out 2).trans rfl; have hcz10_3 : w9.cell? ⟨gb107, 3, none⟩ = some (.int .i64 0) := (blk_cell BK107.out 3).trans rfl; have hfz10_0 := blk_frozen BK107.out 0; have hfz10_1 := blk_frozen BK107.out 1; have hfz10_2 := blk_frozen BK107.out 2; have hfz10_3 := blk_frozen BK107.out 3) | ((with_reducible refine gate_callee (f := 12) rfl ?_); refine goesL_ (some 14) rfl rfl Tryz.func12 (by kernel_rfl) rfl #[.agg #[.int .i64 ((rd_T32 l0 x9_1).f0), .string ((rd_T32 l0 x9_1).f1), .int .i64 ((rd_T32 l0 x9_1).f2), .int .i64 ((rd_T32 l0 x9_1).f3)]] rfl (by (try simp only [List.map_toArray, List.map_cons, List.map_nil]); first | done | rfl | (simp only [List.length_drop, List.length_take]; rfl)) ?_; (with_reducible refine (lex_Right.calls ((rd_T32 l0 x9_1).f0) ((rd_T32 l0 x9_1).f1) ((rd_T32 l0 x9_1).f2) ((rd_T32 l0 x9_1).f3) true _ ?side1 A5.out).mono ?_); (case side1 => exact EnvOk.below HE.out (by repeat (first | (with_reducible first | exact HB.out | apply below_alloc | apply pw_below_drewN | apply below_drew1 | refine below_set ?_ GE107.out) | exact HB.out))); rintro e w11 ⟨rfl, hb⟩; refine ⟨_, rfl, ?_⟩; have n0_ := Aside0.mk (Kd.R_below (by (with_reducible repeat (first | apply Kd.R_alloc | apply Kd.R_drewN | apply Kd.R_drew)); exact (Kd.R_mono (Kd.R_far (p := ⟨gb107, 3, none⟩) (Kd.R_far (p := ⟨gb107, 2, none⟩) (Kd.R_far (p := ⟨gb107, 1, none⟩) (Kd.R_far (p := ⟨gb107, 0, none⟩) (Kd.R_types HO_4.out BK107.out (by decide)) (fun _ hk => hk.2) (.int .i64 ((rd_T32 l0 x9_1).f0))) (fun _ hk => hk.2) (.string ((rd_T32 l0 x9_1).f1))) (fun _ hk => hk.2) (.int .i64 ((rd_T32 l0 x9_1).f2))) (fun _ hk => hk.2) (.int .i64 ((rd_T32 l0 x9_1).f3))) (fun _ h_ => h_.1))) hb); have n1_ := Aside0.mk (blk_below (g := gb107) (o := .cells #[.int .i64 ((rd_T32 l0 x9_1).f0), .string ((rd_T32 l0 x9_1).f1), .int .i64 ((rd_T32 l0 x9_1).f2), .int .i64 ((rd_T32 l0 x9_1).f3)] 32 (0, 0)) (by (with_reducible repeat (first | refine blk_drewN ?_ _ | refine blk_drew ?_ | refine blk_alloc ?_ _)); refine blk_put (cs := #[.int .i64 ((rd_T32 l0 x9_1).f0), .string ((rd_T32 l0 x9_1).f1), .int .i64 ((rd_T32 l0 x9_1).f2), .int .i64 0]) ?_ 3 _ rfl; (with_reducible repeat (first | refine blk_drewN ?_ _ | refine blk_drew ?_ | refine blk_alloc ?_ _)); refine blk_put (cs := #[.int .i64 ((rd_T32 l0 x9_1).f0), .string ((rd_T32 l0 x9_1).f1), .int .i64 0, .int .i64 0]) ?_ 2 _ rfl; (with_reducible repeat (first | refine blk_drewN ?_ _ | refine blk_drew ?_ | refine blk_alloc ?_ _)); refine blk_put (cs := #[.int .i64 ((rd_T32 l0 x9_1).f0), .string (⟨#[]⟩ : ByteArray), .int .i64 0, .int .i64 0]) ?_ 1 _ rfl; (with_reducible repeat (first | refine blk_drewN ?_ _ | refine blk_drew ?_ | refine blk_alloc ?_ _)); refine blk_put (cs := #[.int .i64 0, .string (⟨#[]⟩ : ByteArray), .int .i64 0, .int .i64 0]) ?_ 0 _ rfl; (with_reducible repeat (first | refine blk_drewN ?_ _ | refine blk_drew ?_ | refine blk_alloc ?_ _)); exact BK107.out) hb); have n2_ := Aside0.mk (below_step (by repeat (first | (with_reducible first | exact HB.out | apply below_alloc | apply pw_below_drewN | apply below_drew1 | refine below_set ?_ GE107.out) | exact HB.out)) hb); clear HO_4; clear BK107; clear HB; have HO_4 := n0_; have BK107 := n1_; have HB := n2_; clear n0_ n1_ n2_; (try clear hb); (try clear hb2); (try clear hk); (try clear hi); have hcz12_0 : w11.cell? ⟨gb107, 0, none⟩ = some (.int .i64 ((rd_T32 l0 x9_1).f0)) := (blk_cell BK107.out 0).trans rfl; have hcz12_1 : w11.cell? ⟨gb107, 1, none⟩ = some (.string ((rd_T32 l0 x9_1).f1)) := (blk_cell BK107.out 1).trans rfl; have hcz12_2 : w11.cell? ⟨gb107, 2, none⟩ = some (.int .i64 ((rd_T32 l0 x9_1).f2)) := (blk_cell BK107.out 2).trans rfl; have hcz12_3 : w11.cell? ⟨gb107, 3, none⟩ = some (.int .i64 ((rd_T32 l0 x9_1).f3)) := (blk_cell BK107.out 3).trans rfl; have hfz12_0 := blk_frozen BK107.out 0; have hfz12_1 := blk_frozen BK107.out 1; have hfz12_2 := blk_frozen BK107.out 2; have hfz12_3 := blk_frozen BK107.out 3) | ((with_reducible refine gate_callee (f := 28) rfl ?_); refine goesL_ (some 18) rfl rfl Tryz.func28 (by kernel_rfl) rfl #[.agg #[.int .i64 ((rd_T32 l0 x9_1).f0), .string ((rd_T32 l0 x9_1).f1), .int .i64 ((rd_T32 l0 x9_1).f2), .int .i64 ((rd_T32 l0 x9_1).f3)]] rfl (by (try simp only [List.map_toArray, List.map_cons, List.map_nil]); first | done | rfl | (simp only [List.length_drop, List.length_take]; rfl)) ?_; (with_reducible refine (lex_told.calls ((rd_T32 l0 x9_1).f0) ((rd_T32 l0 x9_1).f1) ((rd_T32 l0 x9_1).f2) ((rd_T32 l0 x9_1).f3) t109 _ ?side1 A7.out).mono ?_); (case side1 => exact EnvOk.below HE.out (by repeat (first | (with_reducible first | exact HB.out | apply below_alloc | apply pw_below_drewN | apply below_drew1 | refine below_set ?_ GE107.out) | exact HB.out))); rintro e w13 ⟨rfl, hb⟩; refine ⟨_, rfl, ?_⟩; have n0_ := Aside0.mk (Kd.R_below (by (with_reducible repeat (first | apply Kd.R_alloc | apply Kd.R_drewN | apply Kd.R_drew)); exact HO_4.out) hb); have n1_ := Aside0.mk (blk_below (g := gb107) (o := .cells #[.int .i64 ((rd_T32 l0 x9_1).f0), .string ((rd_T32 l0 x9_1).f1), .int .i64 ((rd_T32 l0 x9_1).f2), .int .i64 ((rd_T32 l0 x9_1).f3)] 32 (0, 0)) (by (with_reducible repeat (first | refine blk_drewN ?_ _ | refine blk_drew ?_ | refine blk_alloc ?_ _)); exact BK107.out) hb); have n2_ := Aside0.mk (below_step (by repeat (first | (with_reducible first | exact HB.out | apply below_alloc | apply pw_below_drewN | apply below_drew1 | refine below_set ?_ GE107.out) | exact HB.out)) hb); clear HO_4; clear BK107; clear HB; have HO_4 := n0_; have BK107 := n1_; have HB := n2_; clear n0_ n1_ n2_; (try clear hb); (try clear hb2); (try clear hk); (try clear hi)) | ((with_reducible refine gate_builtin (b := .append) (xs := #[.tmp 16, .tmp 19]) rfl ?_); at_builtin; refine Kd.R_append Kd.string (w0 := w) w.heap.size rfl (.tmp 16) (.tmp 19) 36 9 (.string ⟨#[]⟩) 16 rfl Tryz.underlying36 info9 rfl (by decide) (by omega) u4 x4_1 t109 [.string t109] (fun _ => True) (fun _ => False) rfl rfl ?aP (fun _ hk => hk.elim) ?aF ?aO ?aB ?aS ?aL ?_; (case aP => exact rfl); (case aB => exact (by repeat (first | (with_reducible first | exact HB.out | apply below_alloc | apply pw_below_drewN | apply below_drew1 | refine below_set ?_ GE107.out) | exact HB.out))); (case aF => exact (fun _ _ => trivial)); (case aO => exact (by (with_reducible repeat (first | apply Kd.R_alloc | apply Kd.R_drewN | apply Kd.R_drew)); exact HO_4.out)); (case aS => exact (below_size (by repeat (first | (with_reducible first | exact HB.out | apply below_alloc | apply pw_below_drewN | apply below_drew1 | refine below_set ?_ GE107.out) | exact HB.out)))); (case aL => have := LMc8.out; omega); intro v111 w14 ho hb hg hat; rw [← Ny110.out] at ho; have n0_ := Aside0.mk (blk_grown (g := gb107) (o := .cells #[.int .i64 ((rd_T32 l0 x9_1).f0), .string ((rd_T32 l0 x9_1).f1), .int .i64 ((rd_T32 l0 x9_1).f2), .int .i64 ((rd_T32 l0 x9_1).f3)] 32 (0, 0)) (by (with_reducible repeat (first | refine blk_drewN ?_ _ | refine blk_drew ?_ | refine blk_alloc ?_ _)); exact BK107.out) hg (Kd.R_ne HO_4.out BK107.out (by decide))); have n1_ := Aside0.mk (hb); have n2_ := Aside0.mk (ho); clear BK107; clear HB; clear HO_4; have BK107 := n0_; have HB := n1_; have HO112 := n2_; clear n0_ n1_ n2_; clear ho hb hg hat))
         go_roundg k1
         case measure => have := HK1.out; omega
         case rel => exact ⟨(y110), (wrap64 (x9_1 + 1)), (by first | rfl | (simp; done) | (simp [*]; done)), H', ⟨by have := HK1.out; omega⟩, ⟨by (with_reducible repeat (first | apply Kd.R_alloc | apply Kd.R_drewN | apply Kd.R_drew)); exact HO112.out⟩, ⟨by repeat (first | (with_reducible first | exact HB.out | apply below_alloc | apply pw_below_drewN | apply below_drew1 | refine below_set ?_ GE107.out) | exact HB.out)⟩⟩
        ·rw [if_neg c8] at H
         exact absurd H (by simp)
       ·replace c6 := Bool.eq_false_iff.mpr c6
        subst c6
        have H1 : (some ((⟨#[]⟩ : ByteArray), 2)) = some (r1, r2) := by rw [if_neg (show ¬ (false = true) by decide)] at H; exact H
        clear H
        have H := H1
        clear H1
        simp only [Option.some.injEq, Prod.mk.injEq] at H
        obtain ⟨rfl, rfl⟩ := H
        have p106 : 0 ≤ (x9_1 : Int) := of_decide_eq_true (by first | (with_reducible assumption) | assumption)
        have q106 : x9_1 < (l0.length : Int) := of_decide_eq_true (by first | (with_reducible assumption) | assumption)
        obtain ⟨ad106, e106, hx106_0, hx106_1, hx106_2, hx106_3⟩ := at_T32 HR0.out x9_1 p106 q106
        cases e106
        replace hx106_0 := (HB.out.cell (World.block_lt_of_cell? w _ hx106_0)).trans hx106_0
        replace hx106_1 := (HB.out.cell (World.block_lt_of_cell? w _ hx106_1)).trans hx106_1
        replace hx106_2 := (HB.out.cell (World.block_lt_of_cell? w _ hx106_2)).trans hx106_2
        replace hx106_3 := (HB.out.cell (World.block_lt_of_cell? w _ hx106_3)).trans hx106_3
        replace p106 := eq_true p106
        replace q106 := eq_true q106
        go_wp2_with (first | ((with_reducible refine gate_dst (N := 6) rfl ?_); refine box_event ?hg (N := 6) ?hd (cs := #[.int .i64 0, .string (⟨#[]⟩ : ByteArray), .int .i64 0, .int .i64 0]) (t := 32) ?hr ?_; (case hd => rfl); (case hg => rfl); (case hr => first | (go_simp; done) | (go_simp; rfl)); intro gb107 hg w15 hbox hb; have n0_ := Aside0.mk (Kd.R_below (by (with_reducible repeat (first | apply Kd.R_alloc | apply Kd.R_drewN | apply Kd.R_drew)); exact HO_4.out) hb); have n1_ := Aside0.mk (below_step (by repeat (first | (with_reducible first | exact HB.out | apply below_alloc | apply pw_below_drewN | apply below_drew1) | exact HB.out)) hb); have n2_ := Aside0.mk (hbox); have n3_ := Aside0.mk ((by rw [hg]; exact (below_size (by repeat (first | (with_reducible first | exact HB.out | apply below_alloc | apply pw_below_drewN | apply below_drew1) | exact HB.out))) : w.heap.size ≤ gb107)); have n4_ := Aside0.mk ((by rw [hg]; exact (below_size (by repeat (first | (with_reducible first | exact HB.out | apply below_alloc | apply pw_below_drewN | apply below_drew1) | exact HB.out))) : w.heap.size ≤ gb107)); clear HO_4; clear HB; have HO_4 := n0_; have HB := n1_; have BK107 := n2_; have GW107 := n3_; have GE107 := n4_; clear n0_ n1_ n2_ n3_ n4_; clear hb hbox hg; have hcz16_0 : w15.cell? ⟨gb107, 0, none⟩ = some (.int .i64 0) := (blk_cell BK107.out 0).trans rfl; have hcz16_1 : w15.cell? ⟨gb107, 1, none⟩ = some (.string (⟨#[]⟩ : ByteArray)) := (blk_cell BK107.out 1).trans rfl; have hcz16_2 : w15.cell? ⟨gb107, 2, none⟩ = some (.int .i64 0) := (blk_cell BK107.out 2).trans rfl; have hcz16_3 : w15.cell? ⟨gb107, 3, none⟩ = some (.int .i64 0) := (blk_cell BK107.out 3).trans rfl; have hfz16_0 := blk_frozen BK107.out 0; have hfz16_1 := blk_frozen BK107.out 1; have hfz16_2 := blk_frozen BK107.out 2; have hfz16_3 := blk_frozen BK107.out 3) | ((with_reducible refine gate_callee (f := 12) rfl ?_); refine goesL_ (some 14) rfl rfl Tryz.func12 (by kernel_rfl) rfl #[.agg #[.int .i64 ((rd_T32 l0 x9_1).f0), .string ((rd_T32 l0 x9_1).f1), .int .i64 ((rd_T32 l0 x9_1).f2), .int .i64 ((rd_T32 l0 x9_1).f3)]] rfl (by (try simp only [List.map_toArray, List.map_cons, List.map_nil]); first | done | rfl | (simp only [List.length_drop, List.length_take]; rfl)) ?_; (with_reducible refine (lex_Right.calls ((rd_T32 l0 x9_1).f0) ((rd_T32 l0 x9_1).f1) ((rd_T32 l0 x9_1).f2) ((rd_T32 l0 x9_1).f3) false _ ?side1 A5.out).mono ?_); (case side1 => exact EnvOk.below HE.out (by repeat (first | (with_reducible first | exact HB.out | apply below_alloc | apply pw_below_drewN | apply below_drew1 | refine below_set ?_ GE107.out) | exact HB.out))); rintro e w17 ⟨rfl, hb⟩; refine ⟨_, rfl, ?_⟩; have n0_ := Aside0.mk (Kd.R_below (by (with_reducible repeat (first | apply Kd.R_alloc | apply Kd.R_drewN | apply Kd.R_drew)); exact (Kd.R_mono (Kd.R_far (p := ⟨gb107, 3, none⟩) (Kd.R_far (p := ⟨gb107, 2, none⟩) (Kd.R_far (p := ⟨gb107, 1, none⟩) (Kd.R_far (p := ⟨gb107, 0, none⟩) (Kd.R_types HO_4.out BK107.out (by decide)) (fun _ hk => hk.2) (.int .i64 ((rd_T32 l0 x9_1).f0))) (fun _ hk => hk.2) (.string ((rd_T32 l0 x9_1).f1))) (fun _ hk => hk.2) (.int .i64 ((rd_T32 l0 x9_1).f2))) (fun _ hk => hk.2) (.int .i64 ((rd_T32 l0 x9_1).f3))) (fun _ h_ => h_.1))) hb); have n1_ := Aside0.mk (blk_below (g := gb107) (o := .cells #[.int .i64 ((rd_T32 l0 x9_1).f0), .string ((rd_T32 l0 x9_1).f1), .int .i64 ((rd_T32 l0 x9_1).f2), .int .i64 ((rd_T32 l0 x9_1).f3)] 32 (0, 0)) (by (with_reducible repeat (first | refine blk_drewN ?_ _ | refine blk_drew ?_ | refine blk_alloc ?_ _)); refine blk_put (cs := #[.int .i64 ((rd_T32 l0 x9_1).f0), .string ((rd_T32 l0 x9_1).f1), .int .i64 ((rd_T32 l0 x9_1).f2), .int .i64 0]) ?_ 3 _ rfl; (with_reducible repeat (first | refine blk_drewN ?_ _ | refine blk_drew ?_ | refine blk_alloc ?_ _)); refine blk_put (cs := #[.int .i64 ((rd_T32 l0 x9_1).f0), .string ((rd_T32 l0 x9_1).f1), .int .i64 0, .int .i64 0]) ?_ 2 _ rfl; (with_reducible repeat (first | refine blk_drewN ?_ _ | refine blk_drew ?_ | refine blk_alloc ?_ _)); refine blk_put (cs := #[.int .i64 ((rd_T32 l0 x9_1).f0), .string (⟨#[]⟩ : ByteArray), .int .i64 0, .int .i64 0]) ?_ 1 _ rfl; (with_reducible repeat (first | refine blk_drewN ?_ _ | refine blk_drew ?_ | refine blk_alloc ?_ _)); refine blk_put (cs := #[.int .i64 0, .string (⟨#[]⟩ : ByteArray), .int .i64 0, .int .i64 0]) ?_ 0 _ rfl; (with_reducible repeat (first | refine blk_drewN ?_ _ | refine blk_drew ?_ | refine blk_alloc ?_ _)); exact BK107.out) hb); have n2_ := Aside0.mk (below_step (by repeat (first | (with_reducible first | exact HB.out | apply below_alloc | apply pw_below_drewN | apply below_drew1 | refine below_set ?_ GE107.out) | exact HB.out)) hb); clear HO_4; clear BK107; clear HB; have HO_4 := n0_; have BK107 := n1_; have HB := n2_; clear n0_ n1_ n2_; (try clear hb); (try clear hb2); (try clear hk); (try clear hi)))
        go_ret2
        exact ⟨by first | rfl | (simp [errW_none, errW_some] <;> rfl) | (simp [*, errW_none, errW_some] <;> rfl), by repeat (first | (with_reducible first | exact HB.out | apply below_alloc | apply pw_below_drewN | apply below_drew1 | refine below_set ?_ GE107.out) | exact HB.out)⟩
      ·rw [if_neg c4] at H
       exact absurd H (by simp)
     ·rw [if_neg c3] at H
      exact absurd H (by simp)
    ·rw [if_neg c2] at H
     have c2b0 : decide (x9_1 < (l0.length : Int)) = false := decide_eq_false c2
     clear c2
     replace H := Option.bind_eq_some_iff.mp H
     obtain ⟨t105, A180, H⟩ := H
     replace H : (some (t105, 0)) = some (r1, r2) := H
     have A18 := Aside0.mk A180
     clear A180
     simp only [Option.some.injEq, Prod.mk.injEq] at H
     obtain ⟨rfl, rfl⟩ := H
     obtain ⟨Ao19, co19, eo19⟩ := Kd.R_slice HO_4.out
     subst eo19
     go_wp2_with (first | ((with_reducible refine gate_callee (f := 29) rfl ?_); refine goesL_ (some 23) rfl rfl Tryz.func29 (by kernel_rfl) rfl #[.slice Ao19 x4_1.length co19, .string (⟨#[32]⟩ : ByteArray)] rfl (by (try simp only [List.map_toArray, List.map_cons, List.map_nil]); first | done | rfl | (simp only [List.length_drop, List.length_take]; rfl)) ?_; (with_reducible refine (strings_Join.calls _ _ x4_1 (⟨#[32]⟩ : ByteArray) t105 _ ?side1 ?side2 A18.out).mono ?_); (case side1 => repeat (first | exact (Kd.R_reads' HO_4.out).2.2 | (with_reducible refine Kd.C_alloc ?_ _) | (with_reducible refine Kd.C_drewN ?_ _) | (with_reducible refine Kd.C_drew ?_))); (case side2 => exact (Kd.R_reads' HO_4.out).2.1); rintro e w20 ⟨rfl, hb⟩; refine ⟨_, rfl, ?_⟩; have n0_ := Aside0.mk (Kd.R_below (by (with_reducible repeat (first | apply Kd.R_alloc | apply Kd.R_drewN | apply Kd.R_drew)); exact HO_4.out) hb); have n1_ := Aside0.mk (below_step (by repeat (first | (with_reducible first | exact HB.out | apply below_alloc | apply pw_below_drewN | apply below_drew1) | exact HB.out)) hb); clear HO_4; clear HB; have HO_4 := n0_; have HB := n1_; clear n0_ n1_; (try clear hb); (try clear hb2); (try clear hk); (try clear hi)))
     go_ret2
     exact ⟨by first | rfl | (simp [errW_none, errW_some] <;> rfl) | (simp [*, errW_none, errW_some] <;> rfl), by repeat (first | (with_reducible first | exact HB.out | apply below_alloc | apply pw_below_drewN | apply below_drew1) | exact HB.out)⟩

/-! ### touchstonelaw06_alive: function 9 -/
def touchstonelaw06_alive.f (k : Nat)  : Option (Bool) := (lex_Lex.f k (⟨#[108, 101, 116, 32, 120, 61, 45, 49, 32, 45, 45, 32, 97]⟩ : ByteArray)).bind fun bt128 => ((lex_Tell.f k bt128.1).bind fun bt133 => ((touchstonelaw01_No.f bt128.2.2).bind fun t135 => ((touchstonelaw01_No.f bt133.2).bind fun t136 => (if (wrap64 (t135 + t136)) = 0 then (if (bt128.1.length : Int) = 4 then (if 3 < (bt128.1.length : Int) then (if ((rd_T32 bt128.1 3).f2) = (-1) then (if bt133.1.toList = ([108, 101, 116, 32, 120, 32, 61, 32, 45, 49] : List UInt8) then ((lex_Keyword.f (⟨#[108, 101, 116]⟩ : ByteArray)).bind fun t138 => (some t138)) else (some false)) else (some false)) else (none)) else (some false)) else (some false)))))
theorem touchstonelaw06_alive.mono : ∀ k, LeO (touchstonelaw06_alive.f k ) (touchstonelaw06_alive.f (k + 1) ) := by
  intro  k
  unfold touchstonelaw06_alive.f
  repeat' first
      | (with_reducible exact lex_Lex.mono _ _)
      | (with_reducible exact lex_Tell.mono _ _)
      | (with_reducible exact LeO.refl _)
      | (with_reducible exact LeO.none _)
      | (with_reducible refine LeO.ite ?_ ?_)
      | (with_reducible refine LeO.bind ?_ (fun _ => ?_))
      | exact lex_Lex.mono _ _
      | exact lex_Tell.mono _ _
      | exact LeO.none _
      | refine LeO.ite ?_ ?_
      | refine LeO.bind ?_ (fun _ => ?_)
set_option maxHeartbeats 8000000 in
set_option maxRecDepth 100000 in
theorem touchstonelaw06_alive.calls (k : Nat)  (r : Bool) (w : World) (hE : EnvOk w) (h : touchstonelaw06_alive.f k  = some r) :
    Calls Tryz.prog 9 #[] w fun e w' => e = .returned (.bool r) ∧ Below w.heap.size w w' := by
  have HE := Aside0.mk hE
  clear hE
  have HB := Aside0.mk (Below.refl w.heap.size w)
  have H : ((lex_Lex.f k (⟨#[108, 101, 116, 32, 120, 61, 45, 49, 32, 45, 45, 32, 97]⟩ : ByteArray)).bind fun bt128 => ((lex_Tell.f k bt128.1).bind fun bt133 => ((touchstonelaw01_No.f bt128.2.2).bind fun t135 => ((touchstonelaw01_No.f bt133.2).bind fun t136 => (if (wrap64 (t135 + t136)) = 0 then (if (bt128.1.length : Int) = 4 then (if 3 < (bt128.1.length : Int) then (if ((rd_T32 bt128.1 3).f2) = (-1) then (if bt133.1.toList = ([108, 101, 116, 32, 120, 32, 61, 32, 45, 49] : List UInt8) then ((lex_Keyword.f (⟨#[108, 101, 116]⟩ : ByteArray)).bind fun t138 => (some t138)) else (some false)) else (some false)) else (none)) else (some false)) else (some false)))))) = some r := h
  clear h
  replace H := Option.bind_eq_some_iff.mp H
  obtain ⟨⟨t128, t129, t130⟩, A10, H⟩ := H
  replace H : ((lex_Tell.f k t128).bind fun bt133 => ((touchstonelaw01_No.f t130).bind fun t135 => ((touchstonelaw01_No.f bt133.2).bind fun t136 => (if (wrap64 (t135 + t136)) = 0 then (if (t128.length : Int) = 4 then (if 3 < (t128.length : Int) then (if ((rd_T32 t128 3).f2) = (-1) then (if bt133.1.toList = ([108, 101, 116, 32, 120, 32, 61, 32, 45, 49] : List UInt8) then ((lex_Keyword.f (⟨#[108, 101, 116]⟩ : ByteArray)).bind fun t138 => (some t138)) else (some false)) else (some false)) else (none)) else (some false)) else (some false))))) = some r := H
  have A1 := Aside0.mk A10
  clear A10
  replace H := Option.bind_eq_some_iff.mp H
  obtain ⟨⟨t133, t134⟩, A20, H⟩ := H
  replace H : ((touchstonelaw01_No.f t130).bind fun t135 => ((touchstonelaw01_No.f t134).bind fun t136 => (if (wrap64 (t135 + t136)) = 0 then (if (t128.length : Int) = 4 then (if 3 < (t128.length : Int) then (if ((rd_T32 t128 3).f2) = (-1) then (if t133.toList = ([108, 101, 116, 32, 120, 32, 61, 32, 45, 49] : List UInt8) then ((lex_Keyword.f (⟨#[108, 101, 116]⟩ : ByteArray)).bind fun t138 => (some t138)) else (some false)) else (some false)) else (none)) else (some false)) else (some false)))) = some r := H
  have A2 := Aside0.mk A20
  clear A20
  replace H := Option.bind_eq_some_iff.mp H
  obtain ⟨t135, A30, H⟩ := H
  replace H : ((touchstonelaw01_No.f t134).bind fun t136 => (if (wrap64 (t135 + t136)) = 0 then (if (t128.length : Int) = 4 then (if 3 < (t128.length : Int) then (if ((rd_T32 t128 3).f2) = (-1) then (if t133.toList = ([108, 101, 116, 32, 120, 32, 61, 32, 45, 49] : List UInt8) then ((lex_Keyword.f (⟨#[108, 101, 116]⟩ : ByteArray)).bind fun t138 => (some t138)) else (some false)) else (some false)) else (none)) else (some false)) else (some false))) = some r := H
  have A3 := Aside0.mk A30
  clear A30
  replace H := Option.bind_eq_some_iff.mp H
  obtain ⟨t136, A40, H⟩ := H
  replace H : (if (wrap64 (t135 + t136)) = 0 then (if (t128.length : Int) = 4 then (if 3 < (t128.length : Int) then (if ((rd_T32 t128 3).f2) = (-1) then (if t133.toList = ([108, 101, 116, 32, 120, 32, 61, 32, 45, 49] : List UInt8) then ((lex_Keyword.f (⟨#[108, 101, 116]⟩ : ByteArray)).bind fun t138 => (some t138)) else (some false)) else (some false)) else (none)) else (some false)) else (some false)) = some r := H
  have A4 := Aside0.mk A40
  clear A40
  by_cases c5 : (wrap64 (t135 + t136)) = 0
  ·rw [if_pos c5] at H
   have c5b0 : ((wrap64 (t135 + t136)) == 0) = true := beq_iff_eq.mpr c5
   have c5b1 : ((wrap64 (t135 + t136)) != 0) = false := bne_eq_false_iff_eq.mpr c5
   clear c5
   by_cases c6 : (t128.length : Int) = 4
   ·rw [if_pos c6] at H
    have c6b0 : ((t128.length : Int) == 4) = true := beq_iff_eq.mpr c6
    have c6b1 : ((t128.length : Int) != 4) = false := bne_eq_false_iff_eq.mpr c6
    clear c6
    by_cases c7 : 3 < (t128.length : Int)
    ·rw [if_pos c7] at H
     have c7b0 : decide (3 < (t128.length : Int)) = true := decide_eq_true c7
     have c7b1 : decide (3 < t128.length) = true := decide_eq_true (by omega)
     clear c7
     by_cases c8 : ((rd_T32 t128 3).f2) = (-1)
     ·rw [if_pos c8] at H
      have c8b0 : (((rd_T32 t128 3).f2) == (-1)) = true := beq_iff_eq.mpr c8
      have c8b1 : (((rd_T32 t128 3).f2) != (-1)) = false := bne_eq_false_iff_eq.mpr c8
      clear c8
      by_cases c9 : t133.toList = ([108, 101, 116, 32, 120, 32, 61, 32, 45, 49] : List UInt8)
      ·rw [if_pos c9] at H
       have c9b0 : (t133.toList == ([108, 101, 116, 32, 120, 32, 61, 32, 45, 49] : List UInt8)) = true := beq_iff_eq.mpr c9
       have c9b1 : (t133.toList != ([108, 101, 116, 32, 120, 32, 61, 32, 45, 49] : List UInt8)) = false := bne_eq_false_iff_eq.mpr c9
       clear c9
       replace H := Option.bind_eq_some_iff.mp H
       obtain ⟨t138, A100, H⟩ := H
       replace H : (some t138) = some r := H
       have A10 := Aside0.mk A100
       clear A100
       obtain rfl := Option.some.inj H
       go_enter Tryz.func9, Tryz.ntmps9
       go_wp2_with (first | ((with_reducible refine gate_callee (f := 18) rfl ?_); refine goesL_ (some 7) rfl rfl Tryz.func18 (by kernel_rfl) rfl #[.string (⟨#[108, 101, 116, 32, 120, 61, 45, 49, 32, 45, 45, 32, 97]⟩ : ByteArray)] rfl (by (try simp only [List.map_toArray, List.map_cons, List.map_nil]); first | done | rfl | (simp only [List.length_drop, List.length_take]; rfl)) ?_; (with_reducible refine (lex_Lex.calls k (⟨#[108, 101, 116, 32, 120, 61, 45, 49, 32, 45, 45, 32, 97]⟩ : ByteArray) t128 t129 t130 _ ?side1 A1.out).mono ?_); (case side1 => exact EnvOk.below HE.out (by repeat (first | (with_reducible first | exact HB.out | apply below_alloc | apply pw_below_drewN | apply below_drew1) | exact HB.out))); rintro e w11 ⟨v131, rfl, ho0, hb⟩; refine ⟨_, rfl, ?_⟩; have n0_ := Aside0.mk (Kd.R_lower ho0 (below_size (by repeat (first | (with_reducible first | exact HB.out | apply below_alloc | apply pw_below_drewN | apply below_drew1) | exact HB.out)))); have n1_ := Aside0.mk (below_step (by repeat (first | (with_reducible first | exact HB.out | apply below_alloc | apply pw_below_drewN | apply below_drew1) | exact HB.out)) hb); clear HB; have HO132 := n0_; have HB := n1_; clear n0_ n1_; (try clear hb); (try clear hb2); (try clear hk); (try clear hi); (try clear ho0); obtain ⟨Ao12, co12, eo12⟩ := Kd.R_slice HO132.out; subst eo12) | ((with_reducible refine gate_callee (f := 10) rfl ?_); refine goesL_ (some 13) rfl rfl Tryz.func10 (by kernel_rfl) rfl #[.slice Ao12 t128.length co12] rfl (by (try simp only [List.map_toArray, List.map_cons, List.map_nil]); first | done | rfl | (simp only [List.length_drop, List.length_take]; rfl)) ?_; (with_reducible refine (lex_Tell.calls k _ _ t128 t133 t134 _ ?side1 ?side2 ?side3 A2.out).mono ?_); (case side1 => repeat (first | exact (Kd.R_reads' HO132.out).2.2 | (with_reducible refine Kd.C_alloc ?_ _) | (with_reducible refine Kd.C_drewN ?_ _) | (with_reducible refine Kd.C_drew ?_))); (case side2 => exact (Kd.R_reads' HO132.out).2.1); (case side3 => exact EnvOk.below HE.out (by repeat (first | (with_reducible first | exact HB.out | apply below_alloc | apply pw_below_drewN | apply below_drew1) | exact HB.out))); rintro e w13 ⟨rfl, hb⟩; refine ⟨_, rfl, ?_⟩; have n0_ := Aside0.mk (Kd.R_below (by (with_reducible repeat (first | apply Kd.R_alloc | apply Kd.R_drewN | apply Kd.R_drew)); exact HO132.out) hb); have n1_ := Aside0.mk (below_step (by repeat (first | (with_reducible first | exact HB.out | apply below_alloc | apply pw_below_drewN | apply below_drew1) | exact HB.out)) hb); clear HO132; clear HB; have HO132 := n0_; have HB := n1_; clear n0_ n1_; (try clear hb); (try clear hb2); (try clear hk); (try clear hi)) | ((with_reducible refine gate_callee (f := 14) rfl ?_); refine goesL_ (some 17) rfl rfl Tryz.func14 (by kernel_rfl) rfl #[.int .i64 t130] rfl (by (try simp only [List.map_toArray, List.map_cons, List.map_nil]); first | done | rfl | (simp only [List.length_drop, List.length_take]; rfl)) ?_; (with_reducible refine (touchstonelaw01_No.calls t130 t135 _ A3.out).mono ?_); rintro e w' ⟨rfl, ⟨nd, rfl⟩⟩; refine ⟨_, rfl, ?_⟩) | ((with_reducible refine gate_callee (f := 14) rfl ?_); refine goesL_ (some 19) rfl rfl Tryz.func14 (by kernel_rfl) rfl #[.int .i64 t134] rfl (by (try simp only [List.map_toArray, List.map_cons, List.map_nil]); first | done | rfl | (simp only [List.length_drop, List.length_take]; rfl)) ?_; (with_reducible refine (touchstonelaw01_No.calls t134 t136 _ A4.out).mono ?_); rintro e w' ⟨rfl, ⟨nd, rfl⟩⟩; refine ⟨_, rfl, ?_⟩; have p137 : 0 ≤ (3 : Int) := (by omega); have q137 : 3 < (t128.length : Int) := of_decide_eq_true (by first | (with_reducible assumption) | assumption); obtain ⟨ad137, e137, hx137_0, hx137_1, hx137_2, hx137_3⟩ := at_T32 (Kd.R_reads' HO132.out).2.2 3 p137 q137; cases e137; (try simp only [show (3 : Int).toNat = 3 from rfl, Nat.reduceMul, Nat.reduceEqDiff, Go.Addr.add, ↓reduceIte] at hx137_0); (try simp only [show (3 : Int).toNat = 3 from rfl, Nat.reduceMul, Nat.reduceEqDiff, Go.Addr.add, ↓reduceIte] at hx137_1); (try simp only [show (3 : Int).toNat = 3 from rfl, Nat.reduceMul, Nat.reduceEqDiff, Go.Addr.add, ↓reduceIte] at hx137_2); (try simp only [show (3 : Int).toNat = 3 from rfl, Nat.reduceMul, Nat.reduceEqDiff, Go.Addr.add, ↓reduceIte] at hx137_3); have qi137 : (3 < t128.length) = True := eq_true (by omega); (try rw [show ((3 : Int)).toNat = 3 from rfl] at hx137_0); (try rw [show 3 * 4 = 12 from rfl] at hx137_0); (try rw [show ((3 : Int)).toNat = 3 from rfl] at hx137_1); (try rw [show 3 * 4 = 12 from rfl] at hx137_1); (try rw [show ((3 : Int)).toNat = 3 from rfl] at hx137_2); (try rw [show 3 * 4 = 12 from rfl] at hx137_2); (try rw [show ((3 : Int)).toNat = 3 from rfl] at hx137_3); (try rw [show 3 * 4 = 12 from rfl] at hx137_3); replace p137 := eq_true p137; replace q137 := eq_true q137) | (go_at_call 15; (with_reducible refine (lex_Keyword.calls (⟨#[108, 101, 116]⟩ : ByteArray) t138 _ A10.out).mono ?_); rintro e w' ⟨rfl, ⟨nd, rfl⟩⟩))
       go_ret
       exact ⟨by first | rfl | (simp [errW_none, errW_some] <;> rfl) | (simp [*, errW_none, errW_some] <;> rfl), by repeat (first | (with_reducible first | exact HB.out | apply below_alloc | apply pw_below_drewN | apply below_drew1) | exact HB.out)⟩
      ·rw [if_neg c9] at H
       have c9b0 : (t133.toList == ([108, 101, 116, 32, 120, 32, 61, 32, 45, 49] : List UInt8)) = false := beq_eq_false_iff_ne.mpr c9
       have c9b1 : (t133.toList != ([108, 101, 116, 32, 120, 32, 61, 32, 45, 49] : List UInt8)) = true := bne_iff_ne.mpr c9
       obtain rfl := Option.some.inj H
       go_enter Tryz.func9, Tryz.ntmps9
       go_wp2_with (first | ((with_reducible refine gate_callee (f := 18) rfl ?_); refine goesL_ (some 7) rfl rfl Tryz.func18 (by kernel_rfl) rfl #[.string (⟨#[108, 101, 116, 32, 120, 61, 45, 49, 32, 45, 45, 32, 97]⟩ : ByteArray)] rfl (by (try simp only [List.map_toArray, List.map_cons, List.map_nil]); first | done | rfl | (simp only [List.length_drop, List.length_take]; rfl)) ?_; (with_reducible refine (lex_Lex.calls k (⟨#[108, 101, 116, 32, 120, 61, 45, 49, 32, 45, 45, 32, 97]⟩ : ByteArray) t128 t129 t130 _ ?side1 A1.out).mono ?_); (case side1 => exact EnvOk.below HE.out (by repeat (first | (with_reducible first | exact HB.out | apply below_alloc | apply pw_below_drewN | apply below_drew1) | exact HB.out))); rintro e w14 ⟨v131, rfl, ho0, hb⟩; refine ⟨_, rfl, ?_⟩; have n0_ := Aside0.mk (Kd.R_lower ho0 (below_size (by repeat (first | (with_reducible first | exact HB.out | apply below_alloc | apply pw_below_drewN | apply below_drew1) | exact HB.out)))); have n1_ := Aside0.mk (below_step (by repeat (first | (with_reducible first | exact HB.out | apply below_alloc | apply pw_below_drewN | apply below_drew1) | exact HB.out)) hb); clear HB; have HO132 := n0_; have HB := n1_; clear n0_ n1_; (try clear hb); (try clear hb2); (try clear hk); (try clear hi); (try clear ho0); obtain ⟨Ao15, co15, eo15⟩ := Kd.R_slice HO132.out; subst eo15) | ((with_reducible refine gate_callee (f := 10) rfl ?_); refine goesL_ (some 13) rfl rfl Tryz.func10 (by kernel_rfl) rfl #[.slice Ao15 t128.length co15] rfl (by (try simp only [List.map_toArray, List.map_cons, List.map_nil]); first | done | rfl | (simp only [List.length_drop, List.length_take]; rfl)) ?_; (with_reducible refine (lex_Tell.calls k _ _ t128 t133 t134 _ ?side1 ?side2 ?side3 A2.out).mono ?_); (case side1 => repeat (first | exact (Kd.R_reads' HO132.out).2.2 | (with_reducible refine Kd.C_alloc ?_ _) | (with_reducible refine Kd.C_drewN ?_ _) | (with_reducible refine Kd.C_drew ?_))); (case side2 => exact (Kd.R_reads' HO132.out).2.1); (case side3 => exact EnvOk.below HE.out (by repeat (first | (with_reducible first | exact HB.out | apply below_alloc | apply pw_below_drewN | apply below_drew1) | exact HB.out))); rintro e w16 ⟨rfl, hb⟩; refine ⟨_, rfl, ?_⟩; have n0_ := Aside0.mk (Kd.R_below (by (with_reducible repeat (first | apply Kd.R_alloc | apply Kd.R_drewN | apply Kd.R_drew)); exact HO132.out) hb); have n1_ := Aside0.mk (below_step (by repeat (first | (with_reducible first | exact HB.out | apply below_alloc | apply pw_below_drewN | apply below_drew1) | exact HB.out)) hb); clear HO132; clear HB; have HO132 := n0_; have HB := n1_; clear n0_ n1_; (try clear hb); (try clear hb2); (try clear hk); (try clear hi)) | ((with_reducible refine gate_callee (f := 14) rfl ?_); refine goesL_ (some 17) rfl rfl Tryz.func14 (by kernel_rfl) rfl #[.int .i64 t130] rfl (by (try simp only [List.map_toArray, List.map_cons, List.map_nil]); first | done | rfl | (simp only [List.length_drop, List.length_take]; rfl)) ?_; (with_reducible refine (touchstonelaw01_No.calls t130 t135 _ A3.out).mono ?_); rintro e w' ⟨rfl, ⟨nd, rfl⟩⟩; refine ⟨_, rfl, ?_⟩) | ((with_reducible refine gate_callee (f := 14) rfl ?_); refine goesL_ (some 19) rfl rfl Tryz.func14 (by kernel_rfl) rfl #[.int .i64 t134] rfl (by (try simp only [List.map_toArray, List.map_cons, List.map_nil]); first | done | rfl | (simp only [List.length_drop, List.length_take]; rfl)) ?_; (with_reducible refine (touchstonelaw01_No.calls t134 t136 _ A4.out).mono ?_); rintro e w' ⟨rfl, ⟨nd, rfl⟩⟩; refine ⟨_, rfl, ?_⟩; have p137 : 0 ≤ (3 : Int) := (by omega); have q137 : 3 < (t128.length : Int) := of_decide_eq_true (by first | (with_reducible assumption) | assumption); obtain ⟨ad137, e137, hx137_0, hx137_1, hx137_2, hx137_3⟩ := at_T32 (Kd.R_reads' HO132.out).2.2 3 p137 q137; cases e137; (try simp only [show (3 : Int).toNat = 3 from rfl, Nat.reduceMul, Nat.reduceEqDiff, Go.Addr.add, ↓reduceIte] at hx137_0); (try simp only [show (3 : Int).toNat = 3 from rfl, Nat.reduceMul, Nat.reduceEqDiff, Go.Addr.add, ↓reduceIte] at hx137_1); (try simp only [show (3 : Int).toNat = 3 from rfl, Nat.reduceMul, Nat.reduceEqDiff, Go.Addr.add, ↓reduceIte] at hx137_2); (try simp only [show (3 : Int).toNat = 3 from rfl, Nat.reduceMul, Nat.reduceEqDiff, Go.Addr.add, ↓reduceIte] at hx137_3); have qi137 : (3 < t128.length) = True := eq_true (by omega); (try rw [show ((3 : Int)).toNat = 3 from rfl] at hx137_0); (try rw [show 3 * 4 = 12 from rfl] at hx137_0); (try rw [show ((3 : Int)).toNat = 3 from rfl] at hx137_1); (try rw [show 3 * 4 = 12 from rfl] at hx137_1); (try rw [show ((3 : Int)).toNat = 3 from rfl] at hx137_2); (try rw [show 3 * 4 = 12 from rfl] at hx137_2); (try rw [show ((3 : Int)).toNat = 3 from rfl] at hx137_3); (try rw [show 3 * 4 = 12 from rfl] at hx137_3); replace p137 := eq_true p137; replace q137 := eq_true q137))
       go_ret
       exact ⟨by first | rfl | (simp [errW_none, errW_some] <;> rfl) | (simp [*, errW_none, errW_some] <;> rfl), by repeat (first | (with_reducible first | exact HB.out | apply below_alloc | apply pw_below_drewN | apply below_drew1) | exact HB.out)⟩
     ·rw [if_neg c8] at H
      have c8b0 : (((rd_T32 t128 3).f2) == (-1)) = false := beq_eq_false_iff_ne.mpr c8
      have c8b1 : (((rd_T32 t128 3).f2) != (-1)) = true := bne_iff_ne.mpr c8
      obtain rfl := Option.some.inj H
      go_enter Tryz.func9, Tryz.ntmps9
      go_wp2_with (first | ((with_reducible refine gate_callee (f := 18) rfl ?_); refine goesL_ (some 7) rfl rfl Tryz.func18 (by kernel_rfl) rfl #[.string (⟨#[108, 101, 116, 32, 120, 61, 45, 49, 32, 45, 45, 32, 97]⟩ : ByteArray)] rfl (by (try simp only [List.map_toArray, List.map_cons, List.map_nil]); first | done | rfl | (simp only [List.length_drop, List.length_take]; rfl)) ?_; (with_reducible refine (lex_Lex.calls k (⟨#[108, 101, 116, 32, 120, 61, 45, 49, 32, 45, 45, 32, 97]⟩ : ByteArray) t128 t129 t130 _ ?side1 A1.out).mono ?_); (case side1 => exact EnvOk.below HE.out (by repeat (first | (with_reducible first | exact HB.out | apply below_alloc | apply pw_below_drewN | apply below_drew1) | exact HB.out))); rintro e w17 ⟨v131, rfl, ho0, hb⟩; refine ⟨_, rfl, ?_⟩; have n0_ := Aside0.mk (Kd.R_lower ho0 (below_size (by repeat (first | (with_reducible first | exact HB.out | apply below_alloc | apply pw_below_drewN | apply below_drew1) | exact HB.out)))); have n1_ := Aside0.mk (below_step (by repeat (first | (with_reducible first | exact HB.out | apply below_alloc | apply pw_below_drewN | apply below_drew1) | exact HB.out)) hb); clear HB; have HO132 := n0_; have HB := n1_; clear n0_ n1_; (try clear hb); (try clear hb2); (try clear hk); (try clear hi); (try clear ho0); obtain ⟨Ao18, co18, eo18⟩ := Kd.R_slice HO132.out; subst eo18) | ((with_reducible refine gate_callee (f := 10) rfl ?_); refine goesL_ (some 13) rfl rfl Tryz.func10 (by kernel_rfl) rfl #[.slice Ao18 t128.length co18] rfl (by (try simp only [List.map_toArray, List.map_cons, List.map_nil]); first | done | rfl | (simp only [List.length_drop, List.length_take]; rfl)) ?_; (with_reducible refine (lex_Tell.calls k _ _ t128 t133 t134 _ ?side1 ?side2 ?side3 A2.out).mono ?_); (case side1 => repeat (first | exact (Kd.R_reads' HO132.out).2.2 | (with_reducible refine Kd.C_alloc ?_ _) | (with_reducible refine Kd.C_drewN ?_ _) | (with_reducible refine Kd.C_drew ?_))); (case side2 => exact (Kd.R_reads' HO132.out).2.1); (case side3 => exact EnvOk.below HE.out (by repeat (first | (with_reducible first | exact HB.out | apply below_alloc | apply pw_below_drewN | apply below_drew1) | exact HB.out))); rintro e w19 ⟨rfl, hb⟩; refine ⟨_, rfl, ?_⟩; have n0_ := Aside0.mk (Kd.R_below (by (with_reducible repeat (first | apply Kd.R_alloc | apply Kd.R_drewN | apply Kd.R_drew)); exact HO132.out) hb); have n1_ := Aside0.mk (below_step (by repeat (first | (with_reducible first | exact HB.out | apply below_alloc | apply pw_below_drewN | apply below_drew1) | exact HB.out)) hb); clear HO132; clear HB; have HO132 := n0_; have HB := n1_; clear n0_ n1_; (try clear hb); (try clear hb2); (try clear hk); (try clear hi)) | ((with_reducible refine gate_callee (f := 14) rfl ?_); refine goesL_ (some 17) rfl rfl Tryz.func14 (by kernel_rfl) rfl #[.int .i64 t130] rfl (by (try simp only [List.map_toArray, List.map_cons, List.map_nil]); first | done | rfl | (simp only [List.length_drop, List.length_take]; rfl)) ?_; (with_reducible refine (touchstonelaw01_No.calls t130 t135 _ A3.out).mono ?_); rintro e w' ⟨rfl, ⟨nd, rfl⟩⟩; refine ⟨_, rfl, ?_⟩) | ((with_reducible refine gate_callee (f := 14) rfl ?_); refine goesL_ (some 19) rfl rfl Tryz.func14 (by kernel_rfl) rfl #[.int .i64 t134] rfl (by (try simp only [List.map_toArray, List.map_cons, List.map_nil]); first | done | rfl | (simp only [List.length_drop, List.length_take]; rfl)) ?_; (with_reducible refine (touchstonelaw01_No.calls t134 t136 _ A4.out).mono ?_); rintro e w' ⟨rfl, ⟨nd, rfl⟩⟩; refine ⟨_, rfl, ?_⟩; have p137 : 0 ≤ (3 : Int) := (by omega); have q137 : 3 < (t128.length : Int) := of_decide_eq_true (by first | (with_reducible assumption) | assumption); obtain ⟨ad137, e137, hx137_0, hx137_1, hx137_2, hx137_3⟩ := at_T32 (Kd.R_reads' HO132.out).2.2 3 p137 q137; cases e137; (try simp only [show (3 : Int).toNat = 3 from rfl, Nat.reduceMul, Nat.reduceEqDiff, Go.Addr.add, ↓reduceIte] at hx137_0); (try simp only [show (3 : Int).toNat = 3 from rfl, Nat.reduceMul, Nat.reduceEqDiff, Go.Addr.add, ↓reduceIte] at hx137_1); (try simp only [show (3 : Int).toNat = 3 from rfl, Nat.reduceMul, Nat.reduceEqDiff, Go.Addr.add, ↓reduceIte] at hx137_2); (try simp only [show (3 : Int).toNat = 3 from rfl, Nat.reduceMul, Nat.reduceEqDiff, Go.Addr.add, ↓reduceIte] at hx137_3); have qi137 : (3 < t128.length) = True := eq_true (by omega); (try rw [show ((3 : Int)).toNat = 3 from rfl] at hx137_0); (try rw [show 3 * 4 = 12 from rfl] at hx137_0); (try rw [show ((3 : Int)).toNat = 3 from rfl] at hx137_1); (try rw [show 3 * 4 = 12 from rfl] at hx137_1); (try rw [show ((3 : Int)).toNat = 3 from rfl] at hx137_2); (try rw [show 3 * 4 = 12 from rfl] at hx137_2); (try rw [show ((3 : Int)).toNat = 3 from rfl] at hx137_3); (try rw [show 3 * 4 = 12 from rfl] at hx137_3); replace p137 := eq_true p137; replace q137 := eq_true q137))
      go_ret
      exact ⟨by first | rfl | (simp [errW_none, errW_some] <;> rfl) | (simp [*, errW_none, errW_some] <;> rfl), by repeat (first | (with_reducible first | exact HB.out | apply below_alloc | apply pw_below_drewN | apply below_drew1) | exact HB.out)⟩
    ·rw [if_neg c7] at H
     exact absurd H (by simp)
   ·rw [if_neg c6] at H
    have c6b0 : ((t128.length : Int) == 4) = false := beq_eq_false_iff_ne.mpr c6
    have c6b1 : ((t128.length : Int) != 4) = true := bne_iff_ne.mpr c6
    obtain rfl := Option.some.inj H
    go_enter Tryz.func9, Tryz.ntmps9
    go_wp2_with (first | ((with_reducible refine gate_callee (f := 18) rfl ?_); refine goesL_ (some 7) rfl rfl Tryz.func18 (by kernel_rfl) rfl #[.string (⟨#[108, 101, 116, 32, 120, 61, 45, 49, 32, 45, 45, 32, 97]⟩ : ByteArray)] rfl (by (try simp only [List.map_toArray, List.map_cons, List.map_nil]); first | done | rfl | (simp only [List.length_drop, List.length_take]; rfl)) ?_; (with_reducible refine (lex_Lex.calls k (⟨#[108, 101, 116, 32, 120, 61, 45, 49, 32, 45, 45, 32, 97]⟩ : ByteArray) t128 t129 t130 _ ?side1 A1.out).mono ?_); (case side1 => exact EnvOk.below HE.out (by repeat (first | (with_reducible first | exact HB.out | apply below_alloc | apply pw_below_drewN | apply below_drew1) | exact HB.out))); rintro e w20 ⟨v131, rfl, ho0, hb⟩; refine ⟨_, rfl, ?_⟩; have n0_ := Aside0.mk (Kd.R_lower ho0 (below_size (by repeat (first | (with_reducible first | exact HB.out | apply below_alloc | apply pw_below_drewN | apply below_drew1) | exact HB.out)))); have n1_ := Aside0.mk (below_step (by repeat (first | (with_reducible first | exact HB.out | apply below_alloc | apply pw_below_drewN | apply below_drew1) | exact HB.out)) hb); clear HB; have HO132 := n0_; have HB := n1_; clear n0_ n1_; (try clear hb); (try clear hb2); (try clear hk); (try clear hi); (try clear ho0); obtain ⟨Ao21, co21, eo21⟩ := Kd.R_slice HO132.out; subst eo21) | ((with_reducible refine gate_callee (f := 10) rfl ?_); refine goesL_ (some 13) rfl rfl Tryz.func10 (by kernel_rfl) rfl #[.slice Ao21 t128.length co21] rfl (by (try simp only [List.map_toArray, List.map_cons, List.map_nil]); first | done | rfl | (simp only [List.length_drop, List.length_take]; rfl)) ?_; (with_reducible refine (lex_Tell.calls k _ _ t128 t133 t134 _ ?side1 ?side2 ?side3 A2.out).mono ?_); (case side1 => repeat (first | exact (Kd.R_reads' HO132.out).2.2 | (with_reducible refine Kd.C_alloc ?_ _) | (with_reducible refine Kd.C_drewN ?_ _) | (with_reducible refine Kd.C_drew ?_))); (case side2 => exact (Kd.R_reads' HO132.out).2.1); (case side3 => exact EnvOk.below HE.out (by repeat (first | (with_reducible first | exact HB.out | apply below_alloc | apply pw_below_drewN | apply below_drew1) | exact HB.out))); rintro e w22 ⟨rfl, hb⟩; refine ⟨_, rfl, ?_⟩; have n0_ := Aside0.mk (Kd.R_below (by (with_reducible repeat (first | apply Kd.R_alloc | apply Kd.R_drewN | apply Kd.R_drew)); exact HO132.out) hb); have n1_ := Aside0.mk (below_step (by repeat (first | (with_reducible first | exact HB.out | apply below_alloc | apply pw_below_drewN | apply below_drew1) | exact HB.out)) hb); clear HO132; clear HB; have HO132 := n0_; have HB := n1_; clear n0_ n1_; (try clear hb); (try clear hb2); (try clear hk); (try clear hi)) | ((with_reducible refine gate_callee (f := 14) rfl ?_); refine goesL_ (some 17) rfl rfl Tryz.func14 (by kernel_rfl) rfl #[.int .i64 t130] rfl (by (try simp only [List.map_toArray, List.map_cons, List.map_nil]); first | done | rfl | (simp only [List.length_drop, List.length_take]; rfl)) ?_; (with_reducible refine (touchstonelaw01_No.calls t130 t135 _ A3.out).mono ?_); rintro e w' ⟨rfl, ⟨nd, rfl⟩⟩; refine ⟨_, rfl, ?_⟩) | ((with_reducible refine gate_callee (f := 14) rfl ?_); refine goesL_ (some 19) rfl rfl Tryz.func14 (by kernel_rfl) rfl #[.int .i64 t134] rfl (by (try simp only [List.map_toArray, List.map_cons, List.map_nil]); first | done | rfl | (simp only [List.length_drop, List.length_take]; rfl)) ?_; (with_reducible refine (touchstonelaw01_No.calls t134 t136 _ A4.out).mono ?_); rintro e w' ⟨rfl, ⟨nd, rfl⟩⟩; refine ⟨_, rfl, ?_⟩))
    go_ret
    exact ⟨by first | rfl | (simp [errW_none, errW_some] <;> rfl) | (simp [*, errW_none, errW_some] <;> rfl), by repeat (first | (with_reducible first | exact HB.out | apply below_alloc | apply pw_below_drewN | apply below_drew1) | exact HB.out)⟩
  ·rw [if_neg c5] at H
   have c5b0 : ((wrap64 (t135 + t136)) == 0) = false := beq_eq_false_iff_ne.mpr c5
   have c5b1 : ((wrap64 (t135 + t136)) != 0) = true := bne_iff_ne.mpr c5
   obtain rfl := Option.some.inj H
   go_enter Tryz.func9, Tryz.ntmps9
   go_wp2_with (first | ((with_reducible refine gate_callee (f := 18) rfl ?_); refine goesL_ (some 7) rfl rfl Tryz.func18 (by kernel_rfl) rfl #[.string (⟨#[108, 101, 116, 32, 120, 61, 45, 49, 32, 45, 45, 32, 97]⟩ : ByteArray)] rfl (by (try simp only [List.map_toArray, List.map_cons, List.map_nil]); first | done | rfl | (simp only [List.length_drop, List.length_take]; rfl)) ?_; (with_reducible refine (lex_Lex.calls k (⟨#[108, 101, 116, 32, 120, 61, 45, 49, 32, 45, 45, 32, 97]⟩ : ByteArray) t128 t129 t130 _ ?side1 A1.out).mono ?_); (case side1 => exact EnvOk.below HE.out (by repeat (first | (with_reducible first | exact HB.out | apply below_alloc | apply pw_below_drewN | apply below_drew1) | exact HB.out))); rintro e w23 ⟨v131, rfl, ho0, hb⟩; refine ⟨_, rfl, ?_⟩; have n0_ := Aside0.mk (Kd.R_lower ho0 (below_size (by repeat (first | (with_reducible first | exact HB.out | apply below_alloc | apply pw_below_drewN | apply below_drew1) | exact HB.out)))); have n1_ := Aside0.mk (below_step (by repeat (first | (with_reducible first | exact HB.out | apply below_alloc | apply pw_below_drewN | apply below_drew1) | exact HB.out)) hb); clear HB; have HO132 := n0_; have HB := n1_; clear n0_ n1_; (try clear hb); (try clear hb2); (try clear hk); (try clear hi); (try clear ho0); obtain ⟨Ao24, co24, eo24⟩ := Kd.R_slice HO132.out; subst eo24) | ((with_reducible refine gate_callee (f := 10) rfl ?_); refine goesL_ (some 13) rfl rfl Tryz.func10 (by kernel_rfl) rfl #[.slice Ao24 t128.length co24] rfl (by (try simp only [List.map_toArray, List.map_cons, List.map_nil]); first | done | rfl | (simp only [List.length_drop, List.length_take]; rfl)) ?_; (with_reducible refine (lex_Tell.calls k _ _ t128 t133 t134 _ ?side1 ?side2 ?side3 A2.out).mono ?_); (case side1 => repeat (first | exact (Kd.R_reads' HO132.out).2.2 | (with_reducible refine Kd.C_alloc ?_ _) | (with_reducible refine Kd.C_drewN ?_ _) | (with_reducible refine Kd.C_drew ?_))); (case side2 => exact (Kd.R_reads' HO132.out).2.1); (case side3 => exact EnvOk.below HE.out (by repeat (first | (with_reducible first | exact HB.out | apply below_alloc | apply pw_below_drewN | apply below_drew1) | exact HB.out))); rintro e w25 ⟨rfl, hb⟩; refine ⟨_, rfl, ?_⟩; have n0_ := Aside0.mk (Kd.R_below (by (with_reducible repeat (first | apply Kd.R_alloc | apply Kd.R_drewN | apply Kd.R_drew)); exact HO132.out) hb); have n1_ := Aside0.mk (below_step (by repeat (first | (with_reducible first | exact HB.out | apply below_alloc | apply pw_below_drewN | apply below_drew1) | exact HB.out)) hb); clear HO132; clear HB; have HO132 := n0_; have HB := n1_; clear n0_ n1_; (try clear hb); (try clear hb2); (try clear hk); (try clear hi)) | ((with_reducible refine gate_callee (f := 14) rfl ?_); refine goesL_ (some 17) rfl rfl Tryz.func14 (by kernel_rfl) rfl #[.int .i64 t130] rfl (by (try simp only [List.map_toArray, List.map_cons, List.map_nil]); first | done | rfl | (simp only [List.length_drop, List.length_take]; rfl)) ?_; (with_reducible refine (touchstonelaw01_No.calls t130 t135 _ A3.out).mono ?_); rintro e w' ⟨rfl, ⟨nd, rfl⟩⟩; refine ⟨_, rfl, ?_⟩) | ((with_reducible refine gate_callee (f := 14) rfl ?_); refine goesL_ (some 19) rfl rfl Tryz.func14 (by kernel_rfl) rfl #[.int .i64 t134] rfl (by (try simp only [List.map_toArray, List.map_cons, List.map_nil]); first | done | rfl | (simp only [List.length_drop, List.length_take]; rfl)) ?_; (with_reducible refine (touchstonelaw01_No.calls t134 t136 _ A4.out).mono ?_); rintro e w' ⟨rfl, ⟨nd, rfl⟩⟩; refine ⟨_, rfl, ?_⟩))
   go_ret
   exact ⟨by first | rfl | (simp [errW_none, errW_some] <;> rfl) | (simp [*, errW_none, errW_some] <;> rfl), by repeat (first | (with_reducible first | exact HB.out | apply below_alloc | apply pw_below_drewN | apply below_drew1) | exact HB.out)⟩

end Go.Proofs.YtaikpnenegifnaaGreatDoor.XL

/- lex.Right and Tell, in plain Lean: what LexSpec says; no program in sight. -/
namespace Go.Proofs.YtaikpnenegifnaaGreatDoor
set_option linter.unusedSimpArgs false
set_option linter.unusedVariables false
open Go.RowKit Go.Proofs.YtaikpnenegifnaaGreatDoorW.PrintWords Go.Proofs.YtaikpnenegifnaaGreatDoor.XL

theorem lright_f (x : S32) (h : okTok x) : lex_Right.f x.f0 x.f1 x.f2 x.f3 = some (rightL (tokOf x)) := by
  unfold lex_Right.f
  exact if_pos h
/-- The text of tokens. -/
def tellL (l : List TokL) : List UInt8 := Lib.join (l.map toldL) [32]
theorem join_len : ∀ (l : List (List UInt8)), (Lib.join l [32]).length ≤ (l.map List.length).sum + l.length
  | [] => by rw [Lib.join_nil]; simp
  | x :: r => by
    rw [Lib.join_cons, List.length_append, Lib.joinTail_length]
    unfold Lib.lens
    have e : (r.map (fun x => x.length)).sum = (r.map List.length).sum := rfl
    simp only [List.map_cons, List.sum_cons, List.length_cons, List.length_nil, Nat.zero_add, Nat.one_mul, Nat.mul_one]
    omega
def room (l : List (S32)) : Prop := (∀ x ∈ l, okTok x) ∧ l.length ≤ 6000
theorem rd_at {l : List (S32)} {i : Nat} (h : i < l.length) : rd_T32 l (i : Int) = l[i] := by
  unfold rd_T32
  rw [Int.toNat_natCast, List.getD_eq_getElem?_getD, List.getElem?_eq_getElem h, Option.getD_some]
theorem sum_le (l : List (S32)) (h : ∀ x ∈ l, okTok x) : (((l.map fun x => toldL (tokOf x))).map List.length).sum ≤ 200021 * l.length := by
  induction l with
  | nil => simp
  | cons x l ih =>
    have h1 := told_len x (h x (by simp))
    have h2 := (h x (by simp)).1
    have := ih (fun y hy => h y (by simp [hy]))
    simp only [List.map_cons, List.sum_cons, List.length_cons]
    omega
theorem sum_le2 (l : List (S32)) (h : ∀ x ∈ l, okTok x) (hR : ∀ x ∈ l, rightL (tokOf x) = true) : (((l.map fun x => toldL (tokOf x))).map List.length).sum ≤ 2021 * l.length := by
  induction l with
  | nil => simp
  | cons x l ih =>
    have h1 := told_len x (h x (by simp))
    have h2 : x.f1.size ≤ 1000 := by
      have e := hR x (by simp)
      unfold rightL at e
      have e1 := (of_decide_eq_true e).2.2.1
      have hl : x.f1.data.toList.length = x.f1.size := Array.length_toList
      simp [tokOf] at e1
      omega
    have := ih (fun y hy => h y (by simp [hy])) (fun y hy => hR y (by simp [hy]))
    simp only [List.map_cons, List.sum_cons, List.length_cons]
    omega
theorem tell_loop (l : List (S32)) (hr : room l) : ∀ (m i k : Nat), i + m = l.length → 2000050 + m ≤ k → (∀ x ∈ l.take i, rightL (tokOf x) = true) →
    lex_Tell.l0 k ((l.take i).map fun x => B (toldL (tokOf x))) l (l.length : Int) i = some (if l.all (fun x => rightL (tokOf x)) = true then (B (tellL (l.map tokOf)), 0) else (B [], 2)) := by
  intro m
  induction m with
  | zero =>
    intro i k hi hk hall
    obtain ⟨k, rfl⟩ : ∃ q, k = q + 1 := ⟨k - 1, by omega⟩
    rw [List.take_of_length_le (by omega)] at hall ⊢
    rw [lex_Tell.l0, if_neg (by omega), if_pos (by rw [List.all_eq_true]; exact hall)]
    have hs := sum_le2 l hr.1 hall
    have hl := hr.2
    have hj := join_len (l.map fun x => toldL (tokOf x))
    have e1 : (l.map fun x => B (toldL (tokOf x))).map (·.data.toList) = l.map fun x => toldL (tokOf x) := by
      rw [List.map_map]; rfl
    have e2 : (l.map tokOf).map toldL = l.map fun x => toldL (tokOf x) := by rw [List.map_map]; rfl
    unfold strings_Join.f tellL
    rw [e1, e2, show (⟨#[32]⟩ : ByteArray).data.toList = [32] from rfl, if_pos ⟨by rw [List.length_map]; omega, by rw [List.length_map] at hj; omega⟩]
    rfl
  | succ m ih =>
    intro i k hi hk hall
    obtain ⟨k, rfl⟩ : ∃ q, k = q + 1 := ⟨k - 1, by omega⟩
    have hlt : i < l.length := by omega
    have hl := hr.2
    have hx := hr.1 l[i] (List.getElem_mem hlt)
    rw [lex_Tell.l0, if_pos (by omega), if_pos (by omega), if_pos (by omega), rd_at hlt, lright_f _ hx, Option.bind_some]
    cases hR : rightL (tokOf l[i]) with
    | false =>
      rw [if_neg (by decide), if_neg (by rw [List.all_eq_true]; intro e; have := e _ (List.getElem_mem hlt); rw [hR] at this; cases this)]
    | true =>
      have ih' := ih (i + 1) k (by omega) (by omega) (by
        intro x hx2
        rw [List.take_succ_eq_append_getElem hlt] at hx2
        rcases List.mem_append.1 hx2 with h | h
        · exact hall x h
        · rw [List.mem_singleton.1 h]; exact hR)
      rw [List.take_succ_eq_append_getElem hlt, List.map_append] at ih'
      rw [if_pos rfl, ltold_f _ hx, Option.bind_some, if_pos (by rw [List.length_map, List.length_take]; omega), show wrap64 ((i : Int) + 1) = ((i + 1 : Nat) : Int) from wadd1 (by omega)]
      exact ih'
theorem ltell_f (l : List (S32)) (hr : room l) (k : Nat) (hk : 2010000 ≤ k) : lex_Tell.f k l = some (if l.all (fun x => rightL (tokOf x)) = true then (B (tellL (l.map tokOf)), 0) else (B [], 2)) := by
  have hl := hr.2
  exact tell_loop l hr l.length 0 k (Nat.zero_add _) (by omega) (fun x hx => by simp at hx)
end Go.Proofs.YtaikpnenegifnaaGreatDoor

/- lex.Lex, in plain Lean: the tokens of a source, in LexSpec's words; no program in sight. -/
namespace Go.Proofs.YtaikpnenegifnaaGreatDoor
set_option linter.unusedSimpArgs false
set_option linter.unusedVariables false
open Go.RowKit Go.Proofs.YtaikpnenegifnaaGreatDoorW.PrintWords Go.Proofs.YtaikpnenegifnaaGreatDoor.XL

/-- How many bytes of blanks and remarks stand at the front of a text (true: inside a remark). -/
def blankM : Bool → List UInt8 → Nat
  | _, [] => 0
  | true, c :: r => blankM (c != 10) r + 1
  | false, c :: r => if c = 32 ∨ c = 9 ∨ c = 10 then blankM false r + 1 else if c = 45 ∧ r.headD 0 = 45 then blankM true r + 1 else 0
theorem blankM_nil (b : Bool) : blankM b [] = 0 := by cases b <;> rfl
theorem blankM_le : ∀ (l : List UInt8) (b : Bool), blankM b l ≤ l.length
  | [], b => by rw [blankM_nil]; simp
  | c :: r, true => by
    have := blankM_le r (c != 10)
    rw [blankM, List.length_cons]; omega
  | c :: r, false => by
    have h1 := blankM_le r false
    have h2 := blankM_le r true
    rw [blankM, List.length_cons]
    split
    · omega
    · split <;> omega
theorem idx_range : ∀ (l : List UInt8) (c : UInt8), -1 ≤ Lib.indexByte l c ∧ Lib.indexByte l c < l.length
  | [], c => by simp [Lib.indexByte]
  | b :: l, c => by
    have ih := idx_range l c
    rw [Lib.indexByte, List.length_cons]
    split
    · omega
    · split <;> omega
theorem comment : ∀ (l : List UInt8), (Lib.indexByte l 10 = -1 → blankM true l = l.length) ∧ (∀ j : Nat, Lib.indexByte l 10 = (j : Int) → blankM true l = j + 1 + blankM false (l.drop (j + 1)))
  | [] => ⟨fun _ => rfl, fun j h => by simp [Lib.indexByte] at h⟩
  | b :: l => by
    obtain ⟨i1, i2⟩ := comment l
    have hr := idx_range l 10
    rw [Lib.indexByte, blankM]
    by_cases hb : b = 10
    · subst hb
      have e1 : ((10 : UInt8) == 10) = true := rfl
      have e2 : ((10 : UInt8) != 10) = false := rfl
      rw [e1, e2, if_pos rfl]
      refine ⟨fun h => by omega, fun j h => ?_⟩
      have : j = 0 := by omega
      subst this
      simp
      omega
    · have e1 : (b == 10) = false := by simpa using hb
      have e2 : (b != 10) = true := by simpa using hb
      rw [e1, e2, if_neg (by decide)]
      by_cases hn : Lib.indexByte l 10 = -1
      · have e3 : (Lib.indexByte l 10 == -1) = true := by simpa using hn
        rw [e3, if_pos rfl]
        refine ⟨fun _ => by rw [i1 hn, List.length_cons], fun j h => by omega⟩
      · have e3 : (Lib.indexByte l 10 == -1) = false := by simpa using hn
        rw [e3, if_neg (by decide)]
        refine ⟨fun h => by omega, fun j h => ?_⟩
        obtain ⟨q, rfl⟩ : ∃ q, j = q + 1 := ⟨j - 1, by omega⟩
        rw [i2 q (by omega)]
        simp
        omega
theorem blank_loop (L : List UInt8) (hL : L.length ≤ 1000000) : ∀ (m i k : Nat), i + m = L.length → 2 * m + 2 ≤ k →
    lex_blank.l0 k (B L) i = some (((i + blankM false (L.drop i) : Nat)) : Int) := by
  intro m
  induction m using Nat.strongRecOn with
  | _ m ih =>
    intro i k hi hk
    obtain ⟨k, rfl⟩ : ∃ q, k = q + 2 := ⟨k - 2, by omega⟩
    rw [lex_blank.l0, sz_B]
    by_cases hlt : i < L.length
    · rw [if_pos (by omega), if_pos (by omega), bt_B, drop_cons hlt]
      generalize hc : L.getD i 0 = c
      have go : (c = 32 ∨ c = 9 ∨ c = 10) → lex_blank.j1 (k + 1) (B L) i true = some (((i + blankM false (c :: L.drop (i + 1)) : Nat)) : Int) := by
        intro h
        rw [lex_blank.j1, if_pos rfl, wadd1 (by omega), ih (m - 1) (by omega) (i + 1) k (by omega) (by omega), blankM, if_pos h]
        congr 2; omega
      by_cases h32 : c = 32
      · rw [if_pos (by rw [h32]; decide), go (.inl h32)]
      rw [if_neg (ne32 h32)]
      by_cases h9 : c = 9
      · rw [if_pos (by rw [h9]; decide), go (.inr (.inl h9))]
      rw [if_neg (ne9 h9)]
      by_cases h10 : c = 10
      · rw [show (((c.toNat : Nat) : Int) == 10) = true from by rw [h10]; decide, go (.inr (.inr h10))]
      rw [show (((c.toNat : Nat) : Int) == 10) = false from by rw [beq_eq_false_iff_ne]; exact ne10 h10, lex_blank.j1, if_neg (by decide), sz_B, if_pos (by omega), if_pos (by omega), Int.toNat_natCast]
      have hex : (B L).extract i L.length = B (L.drop i) := by have := ex_end L i; rwa [sz_B] at this
      have hdi : L.drop i = c :: L.drop (i + 1) := by rw [drop_cons hlt, hc]
      have hdl : (L.drop i).length = L.length - i := List.length_drop
      rw [hex, show (⟨#[45, 45]⟩ : ByteArray) = B [45, 45] from rfl, hasPrefix_f, Option.bind_some]
      have hp : ((L.drop i).take ([45, 45] : List UInt8).length = [45, 45]) ↔ (c = 45 ∧ (L.drop (i + 1)).headD 0 = 45) := by
        rw [hdi]
        cases L.drop (i + 1) with
        | nil => simp
        | cons b q => simp
      by_cases h45 : c = 45 ∧ (L.drop (i + 1)).headD 0 = 45
      · rw [decide_eq_true (hp.2 h45), if_pos rfl]
        have ei : strings_IndexByte.f (B (L.drop i)) 10 = some (Lib.indexByte (L.drop i) 10) := rfl
        rw [ei, Option.bind_some]
        obtain ⟨c1, c2⟩ := comment (L.drop i)
        have hr := idx_range (L.drop i) 10
        have hM : blankM false (c :: L.drop (i + 1)) = blankM true (L.drop i) := by
          have hno : ¬ (c = 32 ∨ c = 9 ∨ c = 10) := fun e => e.elim h32 (fun e => e.elim h9 h10)
          have a1 : blankM false (c :: L.drop (i + 1)) = blankM true (L.drop (i + 1)) + 1 := by rw [blankM, if_neg hno, if_pos h45]
          have a2 : blankM true (c :: L.drop (i + 1)) = blankM (c != 10) (L.drop (i + 1)) + 1 := rfl
          rw [hdi, a1, a2, show (c != 10) = true from by simpa using h10]
        rw [hM]
        by_cases hn : Lib.indexByte (L.drop i) 10 < 0
        · rw [if_pos hn, c1 (by omega), hdl]
          congr 2; omega
        · obtain ⟨j, hj⟩ : ∃ j : Nat, Lib.indexByte (L.drop i) 10 = (j : Int) := ⟨(Lib.indexByte (L.drop i) 10).toNat, by omega⟩
          rw [if_neg hn, c2 j hj, hj, wadd1 (by omega), wadd (by omega), ih (m - (j + 1)) (by omega) (i + (j + 1)) k (by omega) (by omega), List.drop_drop]
          congr 2; omega
      · rw [decide_eq_false (fun e => h45 (hp.1 e)), if_neg (by decide), blankM, if_neg (fun e => e.elim h32 (fun e => e.elim h9 h10)), if_neg h45]
        rfl
    · rw [if_neg (by omega), List.drop_of_length_le (by omega), blankM_nil]
      rfl
theorem blank_f (L : List UInt8) (hL : L.length ≤ 1000000) (k : Nat) (hk : 2000010 ≤ k) : lex_blank.f k (B L) = some ((blankM false L : Nat) : Int) := by
  have h := blank_loop L hL L.length 0 k (Nat.zero_add _) (by omega)
  rw [List.drop_zero, Nat.zero_add] at h
  exact h

/-- The tokens of a text that begins with one (or is empty), and their places. -/
def lexL : Nat → Nat → List UInt8 → Option (List (TokL × Nat))
  | _, _, [] => some []
  | 0, _, _ :: _ => none
  | f + 1, p, c :: r =>
    match oneL (c :: r) with
    | none => none
    | some (t, n) => (lexL f (p + (n + blankM false ((c :: r).drop n))) ((c :: r).drop (n + blankM false ((c :: r).drop n)))).map ((t, p) :: ·)
def mkTok (x : TokL × Nat) : S32 := ⟨x.1.1, B x.1.2.1, x.1.2.2, (x.2 : Int)⟩
theorem lex_loop (L : List UInt8) (hL : L.length ≤ 20000) : ∀ (f i k : Nat) (acc : List (S32)), L.length ≤ i + f → i ≤ L.length → 2100000 + f ≤ k → acc.length ≤ 6000 →
    match lexL f i (L.drop i) with
    | some ts => acc.length + ts.length ≤ 6000 → lex_Lex.l0 k (B L) acc i = some (acc ++ ts.map mkTok, 0, 0)
    | none => ∃ p e, lex_Lex.l0 k (B L) acc i = some ([], p, e) ∧ (e = 9 ∨ e = 10) := by
  intro f
  induction f with
  | zero =>
    intro i k acc h1 h2 h3 h4
    obtain ⟨k, rfl⟩ : ∃ q, k = q + 1 := ⟨k - 1, by omega⟩
    rw [List.drop_of_length_le (by omega)]
    show acc.length + 0 ≤ 6000 → _
    intro _
    rw [lex_Lex.l0, sz_B, if_neg (by omega)]
    simp
  | succ f ih =>
    intro i k acc h1 h2 h3 h4
    obtain ⟨k, rfl⟩ : ∃ q, k = q + 1 := ⟨k - 1, by omega⟩
    by_cases hlt : i < L.length
    · have hdi := drop_cons hlt
      have hdl : (L.drop i).length = L.length - i := List.length_drop
      obtain ⟨D, hD⟩ : ∃ D, L.drop i = D := ⟨_, rfl⟩
      obtain ⟨c, r, hcr⟩ : ∃ c r, D = c :: r := ⟨_, _, hD ▸ hdi⟩
      rw [hD] at hdl
      obtain ⟨q, hq, hres⟩ := lone c r (by rw [← hcr]; omega)
      rw [lex_Lex.l0, sz_B, if_pos (by omega), if_pos (by omega), if_pos (by omega), Int.toNat_natCast]
      have hex : (B L).extract i L.length = B (L.drop i) := by have := ex_end L i; rwa [sz_B] at this
      rw [hex, hD, hcr, hq, Option.bind_some, lexL]
      cases ho : oneL (c :: r) with
      | none =>
        rw [ho] at hres
        simp only []
        rw [if_neg (by rw [show q.2.2.2.2.2 = false from hres]; decide)]
        exact ⟨_, _, rfl, .inr rfl⟩
      | some p =>
        obtain ⟨⟨kd, t, n⟩, m⟩ := p
        rw [ho] at hres
        have hres : q = (kd, B t, n, 0, (m : Int), true) := hres
        subst hres
        obtain ⟨o1, o2, o3, o4⟩ := one_told ho
        rw [← hcr] at o3
        simp only [if_true]
        by_cases h6 : acc.length = 6000
        · rw [if_pos (by omega)]
          cases lexL f (i + (m + blankM false ((c :: r).drop m))) ((c :: r).drop (m + blankM false ((c :: r).drop m))) with
          | none => exact ⟨_, _, rfl, .inl rfl⟩
          | some ts =>
            show acc.length + (List.length (_ :: ts)) ≤ 6000 → _
            intro h
            simp at h
            omega
        · have hex2 : (B L).extract (i + m) L.length = B (L.drop (i + m)) := by have := ex_end L (i + m); rwa [sz_B] at this
          have hdm : L.drop (i + m) = (c :: r).drop m := by rw [← List.drop_drop, hD, hcr]
          have hbl := blankM_le (L.drop (i + m)) false
          rw [List.length_drop] at hbl
          rw [if_neg (by omega), if_pos (by omega), wadd (by omega), if_pos (by omega), if_pos (by omega), Int.toNat_natCast, hex2, blank_f _ (by rw [List.length_drop]; omega) k (by omega), Option.bind_some, wadd (by omega), ← hdm]
          have ih' := ih (i + (m + blankM false (L.drop (i + m)))) k (acc ++ [⟨kd, B t, n, (i : Int)⟩]) (by omega) (by omega) (by omega) (by simp; omega)
          have hdd : (c :: r).drop (m + blankM false (L.drop (i + m))) = L.drop (i + (m + blankM false (L.drop (i + m)))) := by rw [← hcr, ← hD, List.drop_drop]
          rw [hdd]
          rw [show i + m + blankM false (L.drop (i + m)) = i + (m + blankM false (L.drop (i + m))) by omega]
          cases hx : lexL f (i + (m + blankM false (L.drop (i + m)))) (L.drop (i + (m + blankM false (L.drop (i + m))))) with
          | none =>
            rw [hx] at ih'
            exact ih'
          | some ts =>
            rw [hx] at ih'
            show acc.length + (List.length (_ :: ts)) ≤ 6000 → _
            intro h
            simp only [List.length_cons] at h
            have := ih' (by simp; omega)
            rw [this]
            simp [mkTok]
    · rw [List.drop_of_length_le (by omega)]
      show acc.length + 0 ≤ 6000 → _
      intro _
      rw [lex_Lex.l0, sz_B, if_neg (by omega)]
      simp
/-- The tokens of a source. -/
def sourceL (L : List UInt8) : Option (List (TokL × Nat)) := lexL L.length (blankM false L) (L.drop (blankM false L))
theorem lex_some {L : List UInt8} {ts : List (TokL × Nat)} (hL : L.length ≤ 20000) (h : sourceL L = some ts) (ht : ts.length ≤ 6000) (k : Nat) (hk : 2200000 ≤ k) : lex_Lex.f k (B L) = some (ts.map mkTok, 0, 0) := by
  have hbl := blankM_le L false
  have hl := lex_loop L hL L.length (blankM false L) k [] (by omega) hbl (by omega) (by simp)
  unfold sourceL at h
  rw [h] at hl
  unfold lex_Lex.f
  rw [sz_B, if_neg (by omega), blank_f L (by omega) k (by omega), Option.bind_some]
  have := hl (by simp; omega)
  rw [this]
  rfl
theorem lex_none {L : List UInt8} (hL : L.length ≤ 20000) (h : sourceL L = none) (k : Nat) (hk : 2200000 ≤ k) : ∃ p e, lex_Lex.f k (B L) = some ([], p, e) ∧ (e = 9 ∨ e = 10) := by
  have hbl := blankM_le L false
  have hl := lex_loop L hL L.length (blankM false L) k [] (by omega) hbl (by omega) (by simp)
  unfold sourceL at h
  rw [h] at hl
  unfold lex_Lex.f
  rw [sz_B, if_neg (by omega), blank_f L (by omega) k (by omega), Option.bind_some]
  exact hl
theorem lexL_len : ∀ (f p : Nat) (l : List UInt8) (ts : List (TokL × Nat)), lexL f p l = some ts → ts.length ≤ l.length
  | f, p, [], ts, h => by
    rw [lexL] at h
    obtain rfl := Option.some.inj h
    simp
  | 0, p, c :: r, ts, h => by rw [lexL] at h; cases h
  | f + 1, p, c :: r, ts, h => by
    rw [lexL] at h
    split at h
    · cases h
    · rename_i t n ho
      obtain ⟨o1, o2, o3, o4⟩ := one_told ho
      rw [Option.map_eq_some_iff] at h
      obtain ⟨ts', h', rfl⟩ := h
      have := lexL_len f _ _ ts' h'
      rw [List.length_drop] at this
      rw [List.length_cons]
      omega
theorem sourceL_len {L : List UInt8} {ts : List (TokL × Nat)} (h : sourceL L = some ts) : ts.length ≤ L.length := by
  have := lexL_len _ _ _ _ h
  rw [List.length_drop] at this
  omega
end Go.Proofs.YtaikpnenegifnaaGreatDoor

/- The chapter's example (alive), the laws' bound on lists of tokens (few), and that what is read may be told; in plain Lean. -/
namespace Go.Proofs.YtaikpnenegifnaaGreatDoor
set_option linter.unusedSimpArgs false
set_option linter.unusedVariables false
open Go.RowKit Go.Proofs.YtaikpnenegifnaaGreatDoorW.PrintWords Go.Proofs.YtaikpnenegifnaaGreatDoorW.PrintMore Go.Proofs.YtaikpnenegifnaaGreatDoor.XL

def rangeTok (x : S32) : Prop := -9223372036854775808 ≤ x.f2 ∧ x.f2 ≤ 9223372036854775807
theorem few_loop (l : List (S32)) : ∀ (m i n k : Nat), i + m = 201 → m + 1 ≤ k → n ≤ 100000 * i →
    ∃ b, touchstonelaw06_few.l0 k l n i = some b ∧ (b = true → l.length ≤ 200 ∧ n + ((l.drop i).map fun x => x.f1.size).sum ≤ 4000 ∧ ∀ x ∈ l.drop i, x.f1.size ≤ 4000) := by
  intro m
  induction m with
  | zero =>
    intro i n k hi hk hn
    obtain ⟨k, rfl⟩ : ∃ q, k = q + 1 := ⟨k - 1, by omega⟩
    rw [touchstonelaw06_few.l0]
    by_cases h1 : i < l.length
    · rw [if_pos (by omega), if_neg (by omega), if_neg (by omega)]
      exact ⟨_, rfl, fun h => by cases h⟩
    · rw [if_neg (by omega), List.drop_of_length_le (by omega)]
      by_cases h2 : l.length ≤ 200
      · rw [if_pos (by omega)]
        exact ⟨_, rfl, fun h => ⟨h2, by have := of_decide_eq_true h; simp; omega, fun x hx => by cases hx⟩⟩
      · rw [if_neg (by omega)]
        exact ⟨_, rfl, fun h => by cases h⟩
  | succ m ih =>
    intro i n k hi hk hn
    obtain ⟨k, rfl⟩ : ∃ q, k = q + 1 := ⟨k - 1, by omega⟩
    rw [touchstonelaw06_few.l0]
    by_cases h1 : i < l.length
    · rw [if_pos (by omega), if_pos (by omega), if_pos (by omega), rd_at h1]
      obtain ⟨q, hq, hq1, hq2, hq3⟩ : ∃ q : Nat, mn (l[i].f1.size : Int) 100000 = (q : Int) ∧ q ≤ 100000 ∧ q ≤ l[i].f1.size ∧ (q = l[i].f1.size ∨ q = 100000) := by
        unfold mn
        by_cases h : (100000 : Int) < (l[i].f1.size : Int)
        · rw [if_pos h]; exact ⟨100000, rfl, by omega, by omega, .inr rfl⟩
        · rw [if_neg h]; exact ⟨_, rfl, by omega, by omega, .inl rfl⟩
      rw [hq, wadd (by omega), wadd1 (by omega)]
      obtain ⟨b, hb, hok⟩ := ih (i + 1) (n + q) k (by omega) (by omega) (by omega)
      refine ⟨b, hb, fun h => ?_⟩
      obtain ⟨o1, o2, o3⟩ := hok h
      have hcons := List.drop_eq_getElem_cons h1
      refine ⟨o1, by rw [hcons, List.map_cons, List.sum_cons]; omega, fun x hx => ?_⟩
      rw [hcons] at hx
      rcases List.mem_cons.1 hx with rfl | hx
      · omega
      · exact o3 x hx
    · rw [if_neg (by omega), List.drop_of_length_le (by omega)]
      by_cases h2 : l.length ≤ 200
      · rw [if_pos (by omega)]
        exact ⟨_, rfl, fun h => ⟨h2, by have := of_decide_eq_true h; simp; omega, fun x hx => by cases hx⟩⟩
      · rw [if_neg (by omega)]
        exact ⟨_, rfl, fun h => by cases h⟩
theorem few_f (l : List (S32)) (k : Nat) (hk : 300 ≤ k) : ∃ b, touchstonelaw06_few.f k l = some b ∧ (b = true → l.length ≤ 200 ∧ (∀ x ∈ l, x.f1.size ≤ 4000) ∧ (l.map fun x => x.f1.size).sum ≤ 4000) := by
  obtain ⟨b, hb, hok⟩ := few_loop l 201 0 0 k rfl (by omega) (by omega)
  refine ⟨b, hb, fun h => ?_⟩
  obtain ⟨o1, o2, o3⟩ := hok h
  exact ⟨o1, fun x hx => o3 x hx, by simpa using o2⟩

/-! ### what is read may be told -/
theorem one_kind {l t : List UInt8} {kd n : Int} {m : Nat} (h : oneL l = some ((kd, t, n), m)) : 1 ≤ kd ∧ kd ≤ 8 ∧ t.length ≤ 1000 := by
  cases l with
  | nil => simp [oneL] at h
  | cons c r =>
    rw [oneL] at h
    split at h
    · unfold nameL at h
      split at h
      · cases h
      · rename_i h30
        simp only [Option.some.injEq, Prod.mk.injEq] at h
        obtain ⟨⟨rfl, rfl, -⟩, -⟩ := h
        rcases nameK_cases ((c :: r).takeWhile isN) with e | e | e | e <;> rw [e] <;> exact ⟨by decide, by decide, by omega⟩
    · split at h
      · unfold varL at h
        split at h
        · cases h
        · rename_i h30
          simp only [Option.some.injEq, Prod.mk.injEq] at h
          obtain ⟨⟨rfl, rfl, -⟩, -⟩ := h
          exact ⟨by decide, by decide, by have : ¬ 30 < (r.takeWhile isV).length + 1 := fun e => h30 (.inl e)
                                          omega⟩
      · split at h
        · split at h
          · split at h
            · simp only [Option.some.injEq, Prod.mk.injEq] at h
              obtain ⟨⟨rfl, rfl, -⟩, -⟩ := h
              exact ⟨by decide, by decide, by assumption⟩
            · cases h
          · cases h
        · split at h
          · split at h
            · simp only [Option.some.injEq, Prod.mk.injEq] at h
              obtain ⟨⟨rfl, rfl, -⟩, -⟩ := h
              exact ⟨by decide, by decide, by decide⟩
            · unfold negL at h
              split at h
              · split at h
                · cases h
                · simp only [Option.some.injEq, Prod.mk.injEq] at h
                  obtain ⟨⟨rfl, rfl, -⟩, -⟩ := h
                  exact ⟨by decide, by decide, by simp⟩
              · cases h
          · split at h
            · unfold numTokL at h
              split at h
              · rename_i q hv
                simp only [Option.some.injEq, Prod.mk.injEq] at h
                obtain ⟨⟨rfl, rfl, -⟩, -⟩ := h
                obtain ⟨va, vb, vc, vr, hl0, h1, h2, h3, -, hn⟩ := versionL_some hv
                have l1 := decDigits_len h1
                have l2 := decDigits_len h2
                have l3 := decDigits_len h3
                refine ⟨by decide, by decide, ?_⟩
                rw [List.length_take, hn]
                unfold vtext
                simp only [List.length_append, List.length_cons]
                omega
              · rw [Option.map_eq_some_iff] at h
                obtain ⟨⟨v, q⟩, hi, he⟩ := h
                simp only [Prod.mk.injEq] at he
                obtain ⟨⟨rfl, rfl, -⟩, -⟩ := he
                exact ⟨by decide, by decide, by simp⟩
            · split at h
              · simp only [Option.some.injEq, Prod.mk.injEq] at h
                obtain ⟨⟨rfl, rfl, -⟩, -⟩ := h
                exact ⟨by decide, by decide, by simp⟩
              · cases h
theorem right_of_one {l : List UInt8} {t : TokL} {m : Nat} (h : oneL l = some (t, m)) : rightL t = true ∧ (toldL t).length = m := by
  obtain ⟨o1, o2, o3, o4⟩ := one_told h
  have hlen : (toldL t).length = m := by rw [← o1, List.length_take]; omega
  obtain ⟨kd, tx, n⟩ := t
  obtain ⟨k1, k2, k3⟩ := one_kind h
  refine ⟨?_, hlen⟩
  unfold rightL
  refine decide_eq_true ⟨k1, k2, k3, fun e => ?_, ?_⟩
  · rw [e] at hlen; simp at hlen; omega
  · have := o4 [] stop_nil
    rw [List.append_nil] at this
    rw [this, hlen]

/-! ### the chapter's example -/
def exL : List UInt8 := [108, 101, 116, 32, 120, 61, 45, 49, 32, 45, 45, 32, 97]
def exT : List (TokL × Nat) := [((7, [108, 101, 116], 0), 0), ((1, [120], 0), 4), ((8, [61], 0), 5), ((4, [], -1), 6)]
theorem ex_source : sourceL exL = some exT := by decide +kernel
theorem ex_told : tellL (exT.map (·.1)) = [108, 101, 116, 32, 120, 32, 61, 32, 45, 49] := by
  have h1 : Lib.itoa (-1) = [45, 49] := by
    unfold Lib.itoa
    rw [if_pos (by decide), show (-1 : Int).natAbs = 1 from rfl, Lib.decDigits, dif_pos (by decide)]
    rfl
  have h2 : toldL (4, [], -1) = [45, 49] := h1
  have h3 : (exT.map (·.1)).map toldL = [[108, 101, 116], [120], [61], [45, 49]] := by
    show [toldL (7, [108, 101, 116], 0), toldL (1, [120], 0), toldL (8, [61], 0), toldL (4, [], -1)] = _
    rw [h2]; rfl
  unfold tellL
  rw [h3]
  rfl
theorem tok_mk (x : TokL × Nat) : tokOf (mkTok x) = x.1 := rfl
theorem map_tok_mk (ts : List (TokL × Nat)) : (ts.map mkTok).map tokOf = ts.map (·.1) := by rw [List.map_map]; rfl
theorem alive_f (k : Nat) (hk : 2300000 ≤ k) : touchstonelaw06_alive.f k = some true := by
  have hL := lex_some (L := exL) (ts := exT) (by decide) ex_source (by decide) k (by omega)
  have hroom : room (exT.map mkTok) := by
    refine ⟨fun x hx => ?_, by decide⟩
    simp only [exT, List.map_cons, List.map_nil, List.mem_cons, List.not_mem_nil, or_false] at hx
    rcases hx with rfl | rfl | rfl | rfl <;> exact ⟨by decide, by decide, by decide⟩
  have r1 := (right_of_one (l := [108, 101, 116]) (t := (7, [108, 101, 116], 0)) (m := 3) (by decide +kernel)).1
  have r2 := (right_of_one (l := [120]) (t := (1, [120], 0)) (m := 1) (by decide +kernel)).1
  have r3 := (right_of_one (l := [61]) (t := (8, [61], 0)) (m := 1) (by decide +kernel)).1
  have r4 := (right_of_one (l := [45, 49]) (t := (4, [], -1)) (m := 2) (by decide +kernel)).1
  have hall : (exT.map mkTok).all (fun x => rightL (tokOf x)) = true := by
    rw [List.all_eq_true]
    intro x hx
    simp only [exT, List.map_cons, List.map_nil, List.mem_cons, List.not_mem_nil, or_false] at hx
    rcases hx with rfl | rfl | rfl | rfl
    · exact r1
    · exact r2
    · exact r3
    · exact r4
  have hT := ltell_f (exT.map mkTok) hroom k (by omega)
  rw [if_pos hall, map_tok_mk, ex_told] at hT
  unfold touchstonelaw06_alive.f
  rw [show (⟨#[108, 101, 116, 32, 120, 61, 45, 49, 32, 45, 45, 32, 97]⟩ : ByteArray) = B exL from rfl, hL, Option.bind_some, hT]
  simp only [Option.bind_some, touchstonelaw01_No.f, tl_B]
  rw [if_pos (by unfold wrap64; decide), if_pos (by decide), if_pos (by decide), if_pos (by decide), if_pos trivial, show (⟨#[108, 101, 116]⟩ : ByteArray) = B [108, 101, 116] from rfl, keyword_f, Option.bind_some]
  decide
end Go.Proofs.YtaikpnenegifnaaGreatDoor

/- touchstoneref06.One: the token that LexSpec's oneL finds at a place. -/
namespace Go.Proofs.YtaikpnenegifnaaGreatDoor
set_option linter.unusedSimpArgs false
set_option linter.unusedVariables false
open Go.RowKit Go.Proofs.YtaikpnenegifnaaGreatDoorW.PrintWords Go.Proofs.YtaikpnenegifnaaGreatDoor.XL

def touchstoneref06_One.f (a0 : ByteArray) (a1 : Int) : Option (Int × ByteArray × Int × Int × Int) :=
  if a0.size ≤ 1000000 ∧ 0 ≤ a1 ∧ a1 < (a0.size : Int) then some (match oneL (a0.data.toList.drop a1.toNat) with
    | some ((kd, t, n), m) => (kd, ⟨t.toArray⟩, n, 0, (m : Int))
    | none => (0, ⟨#[]⟩, 0, 0, 0)) else none

theorem kwB : touchstoneref06_Keywords.f = some (kwL.map B) := rfl
theorem isS_facts {c : UInt8} (h : isS c = true) : isG c = false ∧ c ≠ 95 := by
  unfold isS at h
  simp at h
  exact ⟨by unfold isG; simp; omega, fun e => by subst e; revert h; decide⟩
theorem one_w (L : List UInt8) (i : Nat) (hL : L.length ≤ 1000000) (hlt : i < L.length) (w : World) (r1 : Int) (r2 : ByteArray) (r3 r4 r5 : Int)
    (h : (match oneL (L.drop i) with
    | some ((kd, t, n), m) => (kd, B t, n, 0, (m : Int))
    | none => ((0 : Int), (⟨#[]⟩ : ByteArray), (0 : Int), (0 : Int), (0 : Int))) = (r1, r2, r3, r4, r5)) :
    Calls Tryz.prog 32 #[.string (B L), .int .i64 i] w fun e w' => e = .returned (.tuple #[.agg #[.int .i64 r1, .string r2, .int .i64 r3, .int .i64 r4], .int .i64 r5]) ∧ Below w.heap.size w w' := by
  obtain ⟨k, hk⟩ : ∃ k, k = 4000000 := ⟨_, rfl⟩
  have hsz : (B L).size = L.length := sz_B L
  have hs : (B L).size ≤ 1000000 := by rw [hsz]; exact hL
  have hlt' : i < (B L).size := by rw [hsz]; exact hlt
  obtain ⟨c, hcd⟩ : ∃ c, L.getD i 0 = c := ⟨_, rfl⟩
  have hgetN : ∀ (j : Nat) (hj : j < (B L).size), (((B L)[j]'hj).toNat : Int) = ((L.getD j 0).toNat : Int) := by
    intro j hj
    rw [← bt_B, ← bt_at (B L) (j : Int) (by simpa using hj)]
    rfl
  have hc : (((B L)[i]'hlt').toNat : Int) = (c.toNat : Int) := by rw [hgetN, hcd]
  have hdc : L.drop i = c :: L.drop (i + 1) := by rw [drop_cons hlt, hcd]
  obtain ⟨r, hr⟩ : ∃ r, L.drop (i + 1) = r := ⟨_, rfl⟩
  have hrl : r.length = L.length - (i + 1) := by rw [← hr, List.length_drop]
  have hS := rsmall c
  have hG := rgreat c
  have hD := rdigit c
  have ici : ((i : Int) + 1) = ((i + 1 : Nat) : Int) := by omega
  have hdr : ∀ m, (c :: r).take m = ((L.drop i).take m) := fun m => by rw [hdc, hr]
  have hlenR : (c :: r).length = L.length - i := by rw [List.length_cons]; omega
  rw [hdc, hr, oneL] at h
  by_cases hnm : (isS c || isG c || c == 95) = true
  · rw [if_pos hnm] at h
    have hN := rnamed L hL i (by omega) true k (by omega)
    simp only [if_true] at hN
    rw [hdc, hr] at hN
    have hle := tw_len isN (c :: r)
    have htk := tw_take isN (c :: r)
    obtain ⟨wd, hwd⟩ : ∃ wd, (c :: r).takeWhile isN = wd := ⟨_, rfl⟩
    have hNc : isN c = true := by
      unfold isN isV
      simp only [Bool.or_eq_true] at hnm ⊢
      rcases hnm with (h | h) | h
      · simp [h]
      · simp [h]
      · simp [h]
    have hwc : wd = c :: r.takeWhile isN := by rw [← hwd]; exact List.takeWhile_cons_of_pos hNc
    unfold nameL at h
    rw [hwd] at hN hle h htk
    obtain ⟨n, hn⟩ : ∃ n, wd.length = n := ⟨_, rfl⟩
    rw [hn] at hN hle h htk
    have hin : i + n ≤ (B L).size := by omega
    have hext : (B L).extract i (i + n) = B wd := by rw [ex_B, show i + n - i = n by omega, ← hdr, htk]
    have hwt : (B wd).toList = wd := tl_B wd
    have hI := rIn wd kwL (by decide) k (by omega)
    by_cases h30 : 30 < n
    · rw [if_pos h30] at h
      simp only [Prod.mk.injEq] at h
      obtain ⟨rfl, rfl, rfl, rfl, rfl⟩ := h
      by_cases s1 : isS c = true
      · rw [s1] at hS
        exact one_name_a_30 (B L) i k w hs hlt' _ hc n hN hS hin h30
      · have s1' : isS c = false := by simpa using s1
        rw [s1'] at hS
        by_cases s2 : isG c = true
        · rw [s2] at hG
          exact one_name_b_30 (B L) i k w hs hlt' _ hc n hN hS hG hin h30
        · have s2' : isG c = false := by simpa using s2
          rw [s2'] at hG
          have h95 : c = 95 := by simpa [s1', s2'] using hnm
          exact one_name_c_30 (B L) i k w hs hlt' _ hc n hN hS hG (by rw [h95]; rfl) hin h30
    · rw [if_neg h30] at h
      simp only [Prod.mk.injEq] at h
      obtain ⟨rfl, rfl, rfl, rfl, rfl⟩ := h
      rw [← hext]
      have hK : nameK wd = if isG c = true then 2 else if wd = [95] then 8 else if wd ∈ kwL then 7 else 1 := by
        rw [hwc]; rfl
      by_cases s2 : isG c = true
      · have s1 : isS c = false := by
          cases hb : isS c with
          | false => rfl
          | true => rw [(isS_facts hb).1] at s2; cases s2
        rw [s1] at hS
        rw [s2] at hG
        rw [hK, if_pos s2]
        exact one_name_b (B L) i k w hs hlt' _ hc n hN hS hG hin (by omega)
      have s2' : isG c = false := by simpa using s2
      rw [s2'] at hG
      rw [if_neg s2] at hK
      by_cases s1 : isS c = true
      · rw [s1] at hS
        have hne : wd ≠ [95] := fun e => by
          rw [hwc] at e
          simp only [List.cons.injEq] at e
          exact (isS_facts s1).2 e.1
        rw [if_neg hne] at hK
        have hU : (((B L).extract i (i + n)).toList == ([95] : List UInt8)) = false := by rw [hext, hwt, beq_eq_false_iff_ne]; exact hne
        by_cases hkw : wd ∈ kwL
        · rw [hK, if_pos hkw]
          exact one_name_a_7 (B L) i k w hs hlt' _ hc n hN hS hG hin (by omega) hU _ kwB (by rw [hext, hI, decide_eq_true hkw])
        · rw [hK, if_neg hkw]
          exact one_name_a_1 (B L) i k w hs hlt' _ hc n hN hS hG hin (by omega) hU _ kwB (by rw [hext, hI, decide_eq_false hkw])
      · have s1' : isS c = false := by simpa using s1
        rw [s1'] at hS
        have h95 : c = 95 := by simpa [s1', s2'] using hnm
        have h95' : (c.toNat : Int) = 95 := by rw [h95]; rfl
        by_cases hne : wd = [95]
        · rw [hK, if_pos hne]
          exact one_name_c_u (B L) i k w hs hlt' _ hc n hN hS hG h95' hin (by omega) (by rw [hext, hwt, hne]; rfl)
        rw [if_neg hne] at hK
        have hU : (((B L).extract i (i + n)).toList == ([95] : List UInt8)) = false := by rw [hext, hwt, beq_eq_false_iff_ne]; exact hne
        by_cases hkw : wd ∈ kwL
        · rw [hK, if_pos hkw]
          exact one_name_c_7 (B L) i k w hs hlt' _ hc n hN hS hG h95' hin (by omega) hU _ kwB (by rw [hext, hI, decide_eq_true hkw])
        · rw [hK, if_neg hkw]
          exact one_name_c_1 (B L) i k w hs hlt' _ hc n hN hS hG h95' hin (by omega) hU _ kwB (by rw [hext, hI, decide_eq_false hkw])
  rw [if_neg hnm] at h
  have hnm' : (isS c || isG c || c == 95) = false := by simpa using hnm
  simp only [Bool.or_eq_false_iff, beq_eq_false_iff_ne] at hnm'
  obtain ⟨⟨s1, s2⟩, h95⟩ := hnm'
  rw [s1] at hS
  rw [s2] at hG
  by_cases h39 : c = 39
  · rw [if_pos h39] at h
    have hc' : (((B L)[i]'hlt').toNat : Int) = 39 := by rw [hc, h39]; rfl
    have hN := rnamed L hL (i + 1) (by omega) false k (by omega)
    simp only [Bool.false_eq_true, if_false] at hN
    rw [hr, ← ici] at hN
    have hle := tw_len isV r
    have htk := tw_take isV r
    obtain ⟨wd, hwd⟩ : ∃ wd, r.takeWhile isV = wd := ⟨_, rfl⟩
    unfold varL at h
    rw [hwd] at hN hle h htk
    obtain ⟨n, hn⟩ : ∃ n, wd.length = n := ⟨_, rfl⟩
    rw [hn] at hN hle h htk
    by_cases h0 : n = 0
    · have hbad : 30 < n + 1 ∨ isS (r.headD 0) = false := by
        right
        have hw : wd = [] := List.eq_nil_of_length_eq_zero (by omega)
        cases hb : isS (r.headD 0) with
        | false => rfl
        | true =>
          cases r with
          | nil => exact absurd hb (by decide)
          | cons b q =>
            have : isV b = true := by
              have hb' : isS b = true := hb
              unfold isV; simp [hb']
            rw [List.takeWhile_cons_of_pos this] at hwd
            rw [hw] at hwd; cases hwd
      rw [if_pos hbad] at h
      simp only [Prod.mk.injEq] at h
      obtain ⟨rfl, rfl, rfl, rfl, rfl⟩ := h
      rw [h0] at hN
      exact one_var_0 (B L) i k w hs hlt' hc' hN
    · have hlt1 : i + 1 < (B L).size := by omega
      have hhd : r.headD 0 = L.getD (i + 1) 0 := by rw [← hr, drop_cons (by omega)]; rfl
      have hS1 : touchstoneref06_small.f (((B L)[i + 1]'hlt1).toNat : Int) = some (isS (r.headD 0)) := by rw [hgetN, hhd]; exact rsmall _
      by_cases h30 : 30 < n + 1
      · rw [if_pos (.inl h30)] at h
        simp only [Prod.mk.injEq] at h
        obtain ⟨rfl, rfl, rfl, rfl, rfl⟩ := h
        exact one_var_30 (B L) i k w hs hlt' hc' n hN (by omega) h30 (by omega)
      cases hb : isS (r.headD 0) with
      | false =>
        rw [if_pos (.inr hb)] at h
        simp only [Prod.mk.injEq] at h
        obtain ⟨rfl, rfl, rfl, rfl, rfl⟩ := h
        rw [hb] at hS1
        exact one_var_s (B L) i k w hs hlt' hc' n hN (by omega) (by omega) hlt1 hS1
      | true =>
        rw [if_neg (by rw [hb]; exact fun e => e.elim h30 (fun e => Bool.noConfusion e))] at h
        simp only [Prod.mk.injEq] at h
        obtain ⟨rfl, rfl, rfl, rfl, rfl⟩ := h
        rw [hb] at hS1
        have := one_var (B L) i k w hs hlt' hc' n hN (by omega) (by omega) (by omega) hlt1 hS1
        rw [ex_B, show i + 1 + n - (i + 1) = n by omega, hr, htk] at this
        rw [show ((n + 1 : Nat) : Int) = (n : Int) + 1 by omega]
        exact this
  rw [if_neg h39] at h
  by_cases h34 : c = 34
  · rw [if_pos h34] at h
    have hc' : (((B L)[i]'hlt').toNat : Int) = 34 := by rw [hc, h34]; rfl
    have hT := rtext L hL i hlt k (by omega)
    rw [hr] at hT
    cases htx : textL r with
    | none =>
      rw [htx] at h hT
      simp only [Prod.mk.injEq] at h
      obtain ⟨rfl, rfl, rfl, rfl, rfl⟩ := h
      exact one_text (B L) i k w hs hlt' hc' 0 _ _ hT
    | some p =>
      obtain ⟨t, n⟩ := p
      rw [htx] at h hT
      simp only [] at h hT
      by_cases h1000 : t.length ≤ 1000
      · rw [if_pos h1000] at h hT
        simp only [Prod.mk.injEq] at h
        obtain ⟨rfl, rfl, rfl, rfl, rfl⟩ := h
        exact one_text (B L) i k w hs hlt' hc' 5 _ _ hT
      · rw [if_neg h1000] at h hT
        simp only [Prod.mk.injEq] at h
        obtain ⟨rfl, rfl, rfl, rfl, rfl⟩ := h
        exact one_text (B L) i k w hs hlt' hc' 0 _ _ hT
  rw [if_neg h34] at h
  by_cases h45 : c = 45
  · rw [if_pos h45] at h
    have hc' : (((B L)[i]'hlt').toNat : Int) = 45 := by rw [hc, h45]; rfl
    have hN := rdigits L hL (i + 1) (by omega) k (by omega)
    rw [hr, ← ici] at hN
    by_cases hend : i + 1 = L.length
    · have hr0 : r = [] := List.eq_nil_of_length_eq_zero (by omega)
      subst hr0
      rw [if_neg (by decide)] at h
      have hn : negL [] = none := rfl
      rw [hn] at h
      simp only [Prod.mk.injEq] at h
      obtain ⟨rfl, rfl, rfl, rfl, rfl⟩ := h
      exact one_neg_end (B L) i k w hs hlt' hc' (by omega) hN
    have hlt1 : i + 1 < (B L).size := by omega
    have hhd : r.headD 0 = L.getD (i + 1) 0 := by rw [← hr, drop_cons (by omega)]; rfl
    have hb1 : (((B L)[i + 1]'hlt1).toNat : Int) = ((r.headD 0).toNat : Int) := by rw [hgetN, hhd]
    by_cases h62 : r.headD 0 = 62
    · rw [if_pos h62] at h
      simp only [Prod.mk.injEq] at h
      obtain ⟨rfl, rfl, rfl, rfl, rfl⟩ := h
      exact one_arrow (B L) i k w hs hlt' hc' hlt1 (by rw [hb1, h62]; rfl)
    rw [if_neg h62] at h
    have h62' := ne62 h62
    have hle := tw_len isD r
    have htk := tw_take isD r
    have hall := tw_all isD r
    obtain ⟨d, hd⟩ : ∃ d, r.takeWhile isD = d := ⟨_, rfl⟩
    unfold negL intL at h
    rw [hd] at hN hle h htk hall
    obtain ⟨n, hn⟩ : ∃ n, d.length = n := ⟨_, rfl⟩
    have hd0 : d = [] ↔ n = 0 := ⟨fun e => by rw [← hn, e]; rfl, fun e => List.eq_nil_of_length_eq_zero (by omega)⟩
    rw [hn] at hN hle h htk
    by_cases h0 : n = 0
    · rw [if_pos (.inl (hd0.2 h0))] at h
      simp only [Prod.mk.injEq] at h
      obtain ⟨rfl, rfl, rfl, rfl, rfl⟩ := h
      rw [h0] at hN
      exact one_neg_0 (B L) i k w hs hlt' hc' hlt1 _ hb1 h62' hN
    by_cases h18 : 18 < n
    · rw [if_pos (.inr (.inl h18))] at h
      simp only [Prod.mk.injEq] at h
      obtain ⟨rfl, rfl, rfl, rfl, rfl⟩ := h
      exact one_neg_18 (B L) i k w hs hlt' hc' hlt1 _ hb1 h62' n hN h18 (by omega)
    by_cases h48 : r.headD 0 = 48
    · have h' : ((0 : Int), (⟨#[]⟩ : ByteArray), (0 : Int), (0 : Int), (0 : Int)) = (r1, r2, r3, r4, r5) := by
        by_cases h1 : 1 < n
        · rw [if_pos (.inr (.inr ⟨h1, h48⟩))] at h
          exact h
        · rw [if_neg (fun e => e.elim (fun e => h0 (hd0.1 e)) (fun e => e.elim (fun e => h18 e) (fun e => h1 e.1)))] at h
          simp only [h48, if_true] at h
          exact h
      simp only [Prod.mk.injEq] at h'
      obtain ⟨rfl, rfl, rfl, rfl, rfl⟩ := h'
      have hb48 : ((r.headD 0).toNat : Int) = 48 := by rw [h48]; rfl
      by_cases h1 : 1 < n
      · exact one_neg_48 (B L) i k w hs hlt' hc' hlt1 _ hb1 h62' n hN h1 (by omega) hb48
      · rw [show n = 1 by omega] at hN
        exact one_neg_48_one (B L) i k w hs hlt' hc' hlt1 _ hb1 h62' hN hb48
    rw [if_neg (fun e => e.elim (fun e => h0 (hd0.1 e)) (fun e => e.elim (fun e => h18 e) (fun e => h48 e.2)))] at h
    simp only [h48, if_false] at h
    simp only [Prod.mk.injEq] at h
    obtain ⟨rfl, rfl, rfl, rfl, rfl⟩ := h
    have hb48 := ne48 h48
    have hX := rnumber d hall (by omega) k (by omega)
    have hext : (B L).extract (i + 1) (i + 1 + n) = B d := by rw [ex_B, show i + 1 + n - (i + 1) = n by omega, hr, htk]
    have hvl := val_lt hall
    have hp : 10 ^ d.length ≤ 10 ^ 18 := Nat.pow_le_pow_right (by decide) (by omega)
    by_cases h1 : 1 < n
    · have := one_neg_more (B L) i k w hs hlt' hc' hlt1 _ hb1 h62' n hN h1 (by omega) hb48 (by omega) _ (by rw [hext]; exact hX) (by omega) (by omega)
      rw [show ((n + 1 : Nat) : Int) = (n : Int) + 1 by omega]
      exact this
    · have hn1 : n = 1 := by omega
      subst hn1
      exact one_neg_one (B L) i k w hs hlt' hc' hlt1 _ hb1 h62' hN hb48 (by omega) _ (by rw [hext]; exact hX) (by omega) (by omega)
  rw [if_neg h45] at h
  by_cases hDc : isD c = true
  · rw [if_pos hDc] at h
    rw [hDc] at hD
    have hV := rversion L hL i (by omega) k (by omega)
    rw [hdc, hr] at hV
    unfold numTokL at h
    cases hv : versionL (c :: r) with
    | some n =>
      rw [hv] at h hV
      simp only [Prod.mk.injEq] at h
      obtain ⟨rfl, rfl, rfl, rfl, rfl⟩ := h
      obtain ⟨va, vb, vc, vr, hl0, -, -, -, -, hn⟩ := versionL_some hv
      have hle : n ≤ L.length - i := by rw [← hlenR, hl0, hn]; simp
      have hpos : 0 < n := by rw [hn]; unfold vtext; simp; omega
      have := one_version (B L) i k w hs hlt' _ hc hS hG (ne95 h95) (ne39 h39) (ne34 h34) (ne45 h45) hD n hV hpos (by omega)
      rw [ex_B, show i + n - i = n by omega, ← hdr] at this
      exact this
    | none =>
      rw [hv] at h hV
      have hN := rdigits L hL i (by omega) k (by omega)
      rw [hdc, hr] at hN
      have hle := tw_len isD (c :: r)
      have htk := tw_take isD (c :: r)
      have hall := tw_all isD (c :: r)
      have hcons : (c :: r).takeWhile isD = c :: r.takeWhile isD := List.takeWhile_cons_of_pos hDc
      obtain ⟨d, hd⟩ : ∃ d, (c :: r).takeWhile isD = d := ⟨_, rfl⟩
      unfold intL at h
      rw [hd] at hN hle h htk hall hcons
      obtain ⟨n, hn⟩ : ∃ n, d.length = n := ⟨_, rfl⟩
      have hd0 : d ≠ [] := by rw [hcons]; simp
      have hn0 : 0 < n := by rw [← hn]; exact List.length_pos_iff.2 hd0
      rw [hn] at hN hle h htk
      have hext : (B L).extract i (i + n) = B d := by rw [ex_B, show i + n - i = n by omega, ← hdr, htk]
      by_cases h18 : 18 < n
      · rw [if_pos (.inr (.inl h18))] at h
        simp only [Option.map_none, Prod.mk.injEq] at h
        obtain ⟨rfl, rfl, rfl, rfl, rfl⟩ := h
        exact one_int_18 (B L) i k w hs hlt' _ hc hS hG (ne95 h95) (ne39 h39) (ne34 h34) (ne45 h45) hD hV n hN h18 (by omega)
      have hX := rnumber d hall (by omega) k (by omega)
      by_cases h1 : 1 < n
      · by_cases h48 : c = 48
        · rw [if_pos (.inr (.inr ⟨h1, h48⟩))] at h
          simp only [Option.map_none, Prod.mk.injEq] at h
          obtain ⟨rfl, rfl, rfl, rfl, rfl⟩ := h
          exact one_int_48 (B L) i k w hs hlt' _ hc hS hG (ne95 h95) (ne39 h39) (ne34 h34) (ne45 h45) hD hV n hN (by omega) h1 (by rw [h48]; rfl)
        · rw [if_neg (fun e => e.elim (fun e => hd0 e) (fun e => e.elim (fun e => h18 e) (fun e => h48 e.2)))] at h
          simp only [Option.map_some, Prod.mk.injEq] at h
          obtain ⟨rfl, rfl, rfl, rfl, rfl⟩ := h
          exact one_int_more (B L) i k w hs hlt' _ hc hS hG (ne95 h95) (ne39 h39) (ne34 h34) (ne45 h45) hD hV n hN h1 (by omega) (ne48 h48) (by omega) _ (by rw [hext]; exact hX)
      · have hn1 : n = 1 := by omega
        subst hn1
        rw [if_neg (fun e => e.elim (fun e => hd0 e) (fun e => e.elim (fun e => h18 e) (fun e => h1 e.1)))] at h
        simp only [Option.map_some, Prod.mk.injEq] at h
        obtain ⟨rfl, rfl, rfl, rfl, rfl⟩ := h
        exact one_int_one (B L) i k w hs hlt' _ hc hS hG (ne95 h95) (ne39 h39) (ne34 h34) (ne45 h45) hD hV hN (by omega) _ (by rw [hext]; exact hX)
  rw [if_neg hDc] at h
  have hDc' : isD c = false := by simpa using hDc
  rw [hDc'] at hD
  have hI := rIn [c] (sgL.map fun b => [b]) (by decide) k (by omega)
  have hmem : (decide ([c] ∈ sgL.map fun b => [b])) = decide (c ∈ sgL) := by
    rw [decide_eq_decide]
    simp
  rw [hmem, ← hcd, ← ex_one hlt, hcd] at hI
  by_cases hs9 : c ∈ sgL
  · rw [if_pos hs9] at h
    simp only [Prod.mk.injEq] at h
    obtain ⟨rfl, rfl, rfl, rfl, rfl⟩ := h
    rw [decide_eq_true hs9] at hI
    have := one_sign (B L) i k w hs hlt' _ hc hS hG (ne95 h95) (ne39 h39) (ne34 h34) (ne45 h45) hD (by omega) hI
    rw [ex_one hlt, hcd] at this
    exact this
  · rw [if_neg hs9] at h
    simp only [Prod.mk.injEq] at h
    obtain ⟨rfl, rfl, rfl, rfl, rfl⟩ := h
    rw [decide_eq_false hs9] at hI
    exact one_none (B L) i k w hs hlt' _ hc hS hG (ne95 h95) (ne39 h39) (ne34 h34) (ne45 h45) hD (by omega) hI

theorem touchstoneref06_One.calls (a0 : ByteArray) (a1 : Int) (r1 : Int) (r2 : ByteArray) (r3 r4 r5 : Int) (w : World) (h : touchstoneref06_One.f a0 a1 = some (r1, r2, r3, r4, r5)) :
    Calls Tryz.prog 32 #[.string a0, .int .i64 a1] w fun e w' => e = .returned (.tuple #[.agg #[.int .i64 r1, .string r2, .int .i64 r3, .int .i64 r4], .int .i64 r5]) ∧ Below w.heap.size w w' := by
  unfold touchstoneref06_One.f at h
  split at h
  · rename_i hc
    obtain ⟨hs, h0, h1⟩ := hc
    obtain ⟨L, hL⟩ : ∃ L, a0 = B L := ⟨_, B_of a0⟩
    subst hL
    obtain ⟨i, rfl⟩ : ∃ i : Nat, a1 = i := ⟨a1.toNat, by omega⟩
    rw [sz_B] at hs h1
    exact one_w L i hs (by omega) w r1 r2 r3 r4 r5 (by simpa using Option.some.inj h)
  · cases h
end Go.Proofs.YtaikpnenegifnaaGreatDoor
