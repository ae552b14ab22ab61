import Derived.Test.YtaikpnenegifnaaGreatDoorG0
import Derived.Test.YtaikpnenegifnaaGreatDoorXLx1
import Derived.Test.YtaikpnenegifnaaGreatDoorG11
import Derived.Laws.LoneSync
-- written by wip/xp.py, a program of this project's session, over the kit's printer
namespace Go.Proofs.YtaikpnenegifnaaGreatDoor.XL
open Go.RowKit Go.Proofs.YtaikpnenegifnaaGreatDoorW.PrintWords Go.Proofs.YtaikpnenegifnaaGreatDoorW.PrintLast Go.Proofs.YtaikpnenegifnaaGreatDoorW.PrintMore
attribute [local go_sem] max2_int min2_int max_two min_two max_three min_three max_four min_four   -- for this text's walks alone
set_option linter.unusedVariables false
set_option linter.unusedSimpArgs false

/-! ### lex_Lex: function 18 -/
def lex_Lex.l0 : Nat → ByteArray → List (S32) → Int → Option ((List (S32)) × Int × Int)
  | 0, _, _, _ => none
  | k + 1, x0, x5, x6 => if x6 < (x0.size : Int) then (if 0 ≤ x6 then (if x6 ≤ (x0.size : Int) then ((lex_one.f (x0.extract (x6 : Int).toNat x0.size)).bind fun bt117 => (if bt117.2.2.2.2.2 = true then (if (x5.length : Int) = 6000 then (some (([] : List (S32)), x6, 9)) else (if x5.length < 3518437208883 then (if 0 ≤ (wrap64 (x6 + bt117.2.2.2.2.1)) then (if (wrap64 (x6 + bt117.2.2.2.2.1)) ≤ (x0.size : Int) then ((lex_blank.f k (x0.extract ((wrap64 (x6 + bt117.2.2.2.2.1)) : Int).toNat x0.size)).bind fun t127 => (lex_Lex.l0 k x0 (x5 ++ [(⟨bt117.1, bt117.2.1, bt117.2.2.1, x6⟩ : S32)]) (wrap64 ((wrap64 (x6 + bt117.2.2.2.2.1)) + t127)))) else (none)) else (none)) else (none))) else (some (([] : List (S32)), x6, 10)))) else (none)) else (none)) else (some (x5, 0, 0))
def lex_Lex.f (k : Nat) (a0 : ByteArray) : Option ((List (S32)) × Int × Int) := if (a0.size : Int) > 20000 then (some (([] : List (S32)), 0, 9)) else ((lex_blank.f k a0).bind fun t116 => (lex_Lex.l0 k a0 ([] : List (S32)) t116))
theorem lex_Lex.mono_l : ∀ k, (∀ y0 y1 y2, LeO (lex_Lex.l0 k y0 y1 y2) (lex_Lex.l0 (k + 1) y0 y1 y2))
  | 0 => fun _ _ _ r h => by simp [lex_Lex.l0] at h
  | k + 1 => by
    have ih0 := lex_Lex.mono_l k
    · intro y0 y1 y2
      unfold lex_Lex.l0
      repeat' first
      | (with_reducible exact ih0 _ _ _)
      | (with_reducible exact lex_blank.mono _ _)
      | (with_reducible exact LeO.refl _)
      | (with_reducible exact LeO.none _)
      | (with_reducible refine LeO.ite ?_ ?_)
      | (with_reducible refine LeO.bind ?_ (fun _ => ?_))
      | exact ih0 _ _ _
      | exact lex_blank.mono _ _
      | exact LeO.none _
      | refine LeO.ite ?_ ?_
      | refine LeO.bind ?_ (fun _ => ?_)
theorem lex_Lex.mono : ∀ a0 k, LeO (lex_Lex.f k a0) (lex_Lex.f (k + 1) a0) := by
  intro a0 k
  have ih0 := lex_Lex.mono_l k
  unfold lex_Lex.f
  repeat' first
      | (with_reducible exact ih0 _ _ _)
      | (with_reducible exact lex_blank.mono _ _)
      | (with_reducible exact LeO.refl _)
      | (with_reducible exact LeO.none _)
      | (with_reducible refine LeO.ite ?_ ?_)
      | (with_reducible refine LeO.bind ?_ (fun _ => ?_))
      | exact ih0 _ _ _
      | exact lex_blank.mono _ _
      | exact LeO.none _
      | refine LeO.ite ?_ ?_
      | refine LeO.bind ?_ (fun _ => ?_)
theorem gen3_ {A B C P : World → Prop} (w : World) (ha : A w) (hb : B w) (hc : C w) (h : ∀ w', A w' → B w' → C w' → P w') : P w := h w ha hb hc
set_option maxHeartbeats 8000000 in
set_option maxRecDepth 100000 in
theorem lex_Lex.calls (k : Nat) (a0 : ByteArray) (r1 : List (S32)) (r2 : Int) (r3 : Int) (w : World) (hE : EnvOk w) (h : lex_Lex.f k a0 = some (r1, r2, r3)) :
    Calls Tryz.prog 18 #[.string a0] w fun e w' => ∃ v0_ : Value, e = .returned (.tuple #[v0_, .int .i64 r2, .int .i64 r3]) ∧ Kd.R k32 32 w' w.heap.size (fun _ => True) v0_ r1 ∧ Below w.heap.size w w' := by
  have hu32 := Tryz.underlying32
  have HE := Aside0.mk hE
  clear hE
  have HB := Aside0.mk (Below.refl w.heap.size w)
  have H : (if (a0.size : Int) > 20000 then (some (([] : List (S32)), 0, 9)) else ((lex_blank.f k a0).bind fun t116 => (lex_Lex.l0 k a0 ([] : List (S32)) t116))) = some (r1, r2, r3) := h
  clear h
  by_cases c2 : (a0.size : Int) > 20000
  ·rw [if_pos c2] at H
   have c2b0 : decide (20000 < (a0.size : Int)) = true := decide_eq_true c2
   have c2b1 : decide (20000 < a0.size) = true := decide_eq_true (by omega)
   clear c2
   simp only [Option.some.injEq, Prod.mk.injEq] at H
   obtain ⟨rfl, rfl, rfl⟩ := H
   go_enter Tryz.func18, Tryz.ntmps18
   go_wp2
   go_ret3
   exact ⟨_, by first | rfl | (simp [errW_none, errW_some] <;> rfl) | (simp [*, errW_none, errW_some] <;> rfl), by first | exact Kd.R_nil _ _ _ _ _ | exact Kd.N_nil _ _ _ _ _ | exact Kd.V_nil _ _ _ _ _ | exact Kd.Q_nil _ _ _ _ _ | exact Kd.S_nil _ _ _ _ _, by repeat (first | (with_reducible first | exact HB.out | apply below_alloc | apply pw_below_drewN | apply below_drew1) | exact HB.out)⟩
  ·rw [if_neg c2] at H
   have c2b0 : decide (20000 < (a0.size : Int)) = false := decide_eq_false c2
   have c2b1 : decide (20000 < a0.size) = false := decide_eq_false (by omega)
   clear c2
   replace H := Option.bind_eq_some_iff.mp H
   obtain ⟨t116, A30, H⟩ := H
   replace H : (lex_Lex.l0 k a0 ([] : List (S32)) t116) = some (r1, r2, r3) := H
   have A3 := Aside0.mk A30
   clear A30
   have H' := Aside0.mk H
   clear H
   go_enter Tryz.func18, Tryz.ntmps18
   go_wp2_with (first | ((with_reducible refine gate_callee (f := 33) rfl ?_); refine goesL_ (some 14) rfl rfl Tryz.func33 (by kernel_rfl) rfl #[.string a0] rfl (by (try simp only [List.map_toArray, List.map_cons, List.map_nil]); first | done | rfl | (simp only [List.length_drop, List.length_take]; rfl)) ?_; (with_reducible refine (lex_blank.calls k a0 t116 _ A3.out).mono ?_); rintro e w' ⟨rfl, ⟨nd, rfl⟩⟩; refine ⟨_, rfl, ?_⟩))
   go_loopg [5, 6] k (fun kq v5 v6 w' => ∃ (x5_1 : List (S32)) (x6_1 : Int), v6 = .int .i64 x6_1 ∧ Aside0 (lex_Lex.l0 kq a0 x5_1 x6_1 = some (r1, r2, r3)) ∧ Aside0 (kq ≤ k) ∧ Aside0 (Kd.R k32 32 w' w.heap.size (fun _ => True) v5 x5_1) ∧ Aside0 (Below w.heap.size w w'))
   case atStart => exact ⟨(([] : List (S32))), (t116), (by first | rfl | (simp; done) | (simp [*]; done)), H', ⟨Nat.le_refl _⟩, ⟨by first | exact Kd.R_nil _ _ _ _ _ | exact Kd.N_nil _ _ _ _ _ | exact Kd.V_nil _ _ _ _ _ | exact Kd.Q_nil _ _ _ _ _ | exact Kd.S_nil _ _ _ _ _⟩, ⟨by repeat (first | (with_reducible first | exact HB.out | apply below_alloc | apply pw_below_drewN | apply below_drew1) | exact HB.out)⟩⟩
   case round =>
    clear H'
    try clear c1
    try clear c2
    try clear c2b0
    try clear c2b1
    try clear p2
    try clear c3
    obtain ⟨x5_1, x6_1, rfl, HA, HK1, HO_5, HB⟩ := hrel
    cases gk with
    | zero => exact absurd HA.out (by simp [lex_Lex.l0])
    | succ k1 =>
     have H := HA.out
     clear HA
     simp only [lex_Lex.l0] at H
     by_cases c4 : x6_1 < (a0.size : Int)
     ·rw [if_pos c4] at H
      have c4b0 : decide (x6_1 < (a0.size : Int)) = true := decide_eq_true c4
      clear c4
      by_cases c5 : 0 ≤ x6_1
      ·rw [if_pos c5] at H
       have c5b0 := eq_true c5
       have c5b1 : decide (0 ≤ x6_1) = true := decide_eq_true c5
       clear c5
       by_cases c6 : x6_1 ≤ (a0.size : Int)
       ·rw [if_pos c6] at H
        have c6b0 := eq_true c6
        have c6b1 : decide (x6_1 ≤ (a0.size : Int)) = true := decide_eq_true c6
        clear c6
        replace H := Option.bind_eq_some_iff.mp H
        obtain ⟨⟨t117, t118, t119, t120, t121, t122⟩, A70, H⟩ := H
        replace H : (if t122 = true then (if (x5_1.length : Int) = 6000 then (some (([] : List (S32)), x6_1, 9)) else (if x5_1.length < 3518437208883 then (if 0 ≤ (wrap64 (x6_1 + t121)) then (if (wrap64 (x6_1 + t121)) ≤ (a0.size : Int) then ((lex_blank.f k1 (a0.extract ((wrap64 (x6_1 + t121)) : Int).toNat a0.size)).bind fun t127 => (lex_Lex.l0 k1 a0 (x5_1 ++ [(⟨t117, t118, t119, x6_1⟩ : S32)]) (wrap64 ((wrap64 (x6_1 + t121)) + t127)))) else (none)) else (none)) else (none))) else (some (([] : List (S32)), x6_1, 10))) = some (r1, r2, r3) := H
        have A7 := Aside0.mk A70
        clear A70
        by_cases c8 : t122 = true
        ·subst c8
         have H1 : (if (x5_1.length : Int) = 6000 then (some (([] : List (S32)), x6_1, 9)) else (if x5_1.length < 3518437208883 then (if 0 ≤ (wrap64 (x6_1 + t121)) then (if (wrap64 (x6_1 + t121)) ≤ (a0.size : Int) then ((lex_blank.f k1 (a0.extract ((wrap64 (x6_1 + t121)) : Int).toNat a0.size)).bind fun t127 => (lex_Lex.l0 k1 a0 (x5_1 ++ [(⟨t117, t118, t119, x6_1⟩ : S32)]) (wrap64 ((wrap64 (x6_1 + t121)) + t127)))) else (none)) else (none)) else (none))) = some (r1, r2, r3) := by rw [if_pos rfl] at H; exact H
         clear H
         have H := H1
         clear H1
         by_cases c9 : (x5_1.length : Int) = 6000
         ·rw [if_pos c9] at H
          have c9b0 : ((x5_1.length : Int) == 6000) = true := beq_iff_eq.mpr c9
          have c9b1 : ((x5_1.length : Int) != 6000) = false := bne_eq_false_iff_eq.mpr c9
          clear c9
          simp only [Option.some.injEq, Prod.mk.injEq] at H
          obtain ⟨rfl, rfl, rfl⟩ := H
          go_wp2_with (first | ((with_reducible refine gate_callee (f := 31) rfl ?_); refine goesL_ (some 23) rfl rfl Tryz.func31 (by kernel_rfl) rfl #[.string (a0.extract (x6_1 : Int).toNat a0.size)] rfl (by (try simp only [List.map_toArray, List.map_cons, List.map_nil]); first | done | rfl | (simp only [List.length_drop, List.length_take]; rfl)) ?_; (with_reducible refine (lex_one.calls (a0.extract (x6_1 : Int).toNat a0.size) t117 t118 t119 t120 t121 true _ ?side1 A7.out).mono ?_); (case side1 => exact EnvOk.below HE.out (by repeat (first | (with_reducible first | exact HB.out | apply below_alloc | apply pw_below_drewN | apply below_drew1) | exact HB.out))); rintro e w10 ⟨rfl, hb⟩; refine ⟨_, rfl, ?_⟩; have n0_ := Aside0.mk (Kd.R_below (by (with_reducible repeat (first | apply Kd.R_alloc | apply Kd.R_drewN | apply Kd.R_drew)); exact HO_5.out) hb); have n1_ := Aside0.mk (below_step (by repeat (first | (with_reducible first | exact HB.out | apply below_alloc | apply pw_below_drewN | apply below_drew1) | exact HB.out)) hb); clear HO_5; clear HB; have HO_5 := n0_; have HB := n1_; clear n0_ n1_; (try clear hb); (try clear hb2); (try clear hk); (try clear hi)) | ((with_reducible refine gate_dst (N := 7) rfl ?_); refine box_event ?hg (N := 7) ?hd (cs := #[.int .i64 0, .string (⟨#[]⟩ : ByteArray), .int .i64 0, .int .i64 0]) (t := 32) ?hr ?_; (case hd => rfl); (case hg => rfl); (case hr => first | (go_simp; done) | (go_simp; rfl)); intro gb123 hg w11 hbox hb; have n0_ := Aside0.mk (Kd.R_below (Kd.R_elderB (by (with_reducible repeat (first | apply Kd.R_alloc | apply Kd.R_drewN | apply Kd.R_drew)); exact HO_5.out) gb123 (Nat.le_of_eq hg.symm)) hb); have n1_ := Aside0.mk (below_step (by repeat (first | (with_reducible first | exact HB.out | apply below_alloc | apply pw_below_drewN | apply below_drew1) | exact HB.out)) hb); have n2_ := Aside0.mk (hbox); have n3_ := Aside0.mk ((by rw [hg]; exact (below_size (by repeat (first | (with_reducible first | exact HB.out | apply below_alloc | apply pw_below_drewN | apply below_drew1) | exact HB.out))) : w.heap.size ≤ gb123)); have n4_ := Aside0.mk ((by rw [hg]; exact (below_size (by repeat (first | (with_reducible first | exact HB.out | apply below_alloc | apply pw_below_drewN | apply below_drew1) | exact HB.out))) : w.heap.size ≤ gb123)); clear HO_5; clear HB; have HO_5 := n0_; have HB := n1_; have BK123 := n2_; have GW123 := n3_; have GE123 := n4_; clear n0_ n1_ n2_ n3_ n4_; clear hb hbox hg; have hcz12_0 : w11.cell? ⟨gb123, 0, none⟩ = some (.int .i64 0) := (blk_cell BK123.out 0).trans rfl; have hcz12_1 : w11.cell? ⟨gb123, 1, none⟩ = some (.string (⟨#[]⟩ : ByteArray)) := (blk_cell BK123.out 1).trans rfl; have hcz12_2 : w11.cell? ⟨gb123, 2, none⟩ = some (.int .i64 0) := (blk_cell BK123.out 2).trans rfl; have hcz12_3 : w11.cell? ⟨gb123, 3, none⟩ = some (.int .i64 0) := (blk_cell BK123.out 3).trans rfl; have hfz12_0 := blk_frozen BK123.out 0; have hfz12_1 := blk_frozen BK123.out 1; have hfz12_2 := blk_frozen BK123.out 2; have hfz12_3 := blk_frozen BK123.out 3; obtain ⟨Ao13, co13, eo13⟩ := Kd.R_slice HO_5.out; subst eo13))
          go_ret3
          exact ⟨_, by first | rfl | (simp [errW_none, errW_some] <;> rfl) | (simp [*, errW_none, errW_some] <;> rfl), by first | exact Kd.R_nil _ _ _ _ _ | exact Kd.N_nil _ _ _ _ _ | exact Kd.V_nil _ _ _ _ _ | exact Kd.Q_nil _ _ _ _ _ | exact Kd.S_nil _ _ _ _ _, by repeat (first | (with_reducible first | exact HB.out | apply below_alloc | apply pw_below_drewN | apply below_drew1 | refine below_set ?_ GE123.out) | exact HB.out)⟩
         ·rw [if_neg c9] at H
          have c9b0 : ((x5_1.length : Int) == 6000) = false := beq_eq_false_iff_ne.mpr c9
          have c9b1 : ((x5_1.length : Int) != 6000) = true := bne_iff_ne.mpr c9
          by_cases c14 : x5_1.length < 3518437208883
          ·rw [if_pos c14] at H
           have LMc14 := Aside0.mk c14
           clear c14
           obtain ⟨y124, hy124⟩ : ∃ y_ : List (S32), y_ = (x5_1 ++ [(⟨t117, t118, t119, x6_1⟩ : S32)]) := ⟨_, rfl⟩
           replace H : (if 0 ≤ (wrap64 (x6_1 + t121)) then (if (wrap64 (x6_1 + t121)) ≤ (a0.size : Int) then ((lex_blank.f k1 (a0.extract ((wrap64 (x6_1 + t121)) : Int).toNat a0.size)).bind fun t127 => (lex_Lex.l0 k1 a0 y124 (wrap64 ((wrap64 (x6_1 + t121)) + t127)))) else (none)) else (none)) = some (r1, r2, r3) := by first | (rw [hy124]; with_reducible exact H) | (have H2_ := (Option.bind_some _ _).symm.trans H; rw [hy124]; with_reducible exact H2_) | (have H2_ := (Option.bind_some _ _).symm.trans H; with_reducible exact H2_) | with_reducible exact H | (rw [hy124]; exact H) | exact H
           have Ny124 := Aside0.mk hy124
           clear hy124
           obtain ⟨ji15, hji15⟩ : ∃ j_ : Int, (wrap64 (x6_1 + t121)) = j_ := ⟨_, rfl⟩
           replace H : (if 0 ≤ (ji15) then (if (ji15) ≤ (a0.size : Int) then ((lex_blank.f k1 (a0.extract ((ji15) : Int).toNat a0.size)).bind fun t127 => (lex_Lex.l0 k1 a0 y124 (wrap64 ((ji15) + t127)))) else (none)) else (none)) = some (r1, r2, r3) := by first | (rw [hji15] at H; exact H) | (simp only [hji15] at H ⊢; exact H)
           (try rw [hji15] at A7)
           have hji15w : (IntKind.i64.wrap (x6_1 + t121)) = ji15 := (i64_w _).trans hji15
           by_cases c16 : 0 ≤ (ji15)
           ·rw [if_pos c16] at H
            have c16b0 := eq_true c16
            have c16b1 : decide (0 ≤ (ji15)) = true := decide_eq_true c16
            clear c16
            by_cases c17 : (ji15) ≤ (a0.size : Int)
            ·rw [if_pos c17] at H
             have c17b0 := eq_true c17
             have c17b1 : decide ((ji15) ≤ (a0.size : Int)) = true := decide_eq_true c17
             clear c17
             replace H := Option.bind_eq_some_iff.mp H
             obtain ⟨t127, A180, H⟩ := H
             replace H : (lex_Lex.l0 k1 a0 y124 (wrap64 ((ji15) + t127))) = some (r1, r2, r3) := H
             have A18 := Aside0.mk A180
             clear A180
             have H' := Aside0.mk H
             clear H
             go_upto_region 12 with (first | ((with_reducible refine gate_callee (f := 31) rfl ?_); refine goesL_ (some 23) rfl rfl Tryz.func31 (by kernel_rfl) rfl #[.string (a0.extract (x6_1 : Int).toNat a0.size)] rfl (by (try simp only [List.map_toArray, List.map_cons, List.map_nil]); first | done | rfl | (simp only [List.length_drop, List.length_take]; rfl)) ?_; (with_reducible refine (lex_one.calls (a0.extract (x6_1 : Int).toNat a0.size) t117 t118 t119 t120 t121 true _ ?side1 A7.out).mono ?_); (case side1 => exact EnvOk.below HE.out (by repeat (first | (with_reducible first | exact HB.out | apply below_alloc | apply pw_below_drewN | apply below_drew1) | exact HB.out))); rintro e w19 ⟨rfl, hb⟩; refine ⟨_, rfl, ?_⟩; have n0_ := Aside0.mk (Kd.R_below (by (with_reducible repeat (first | apply Kd.R_alloc | apply Kd.R_drewN | apply Kd.R_drew)); exact HO_5.out) hb); have n1_ := Aside0.mk (below_step (by repeat (first | (with_reducible first | exact HB.out | apply below_alloc | apply pw_below_drewN | apply below_drew1) | exact HB.out)) hb); clear HO_5; clear HB; have HO_5 := n0_; have HB := n1_; clear n0_ n1_; (try clear hb); (try clear hb2); (try clear hk); (try clear hi)) | ((with_reducible refine gate_dst (N := 7) rfl ?_); refine box_event ?hg (N := 7) ?hd (cs := #[.int .i64 0, .string (⟨#[]⟩ : ByteArray), .int .i64 0, .int .i64 0]) (t := 32) ?hr ?_; (case hd => rfl); (case hg => rfl); (case hr => first | (go_simp; done) | (go_simp; rfl)); intro gb123 hg w20 hbox hb; have n0_ := Aside0.mk (Kd.R_below (Kd.R_elderB (by (with_reducible repeat (first | apply Kd.R_alloc | apply Kd.R_drewN | apply Kd.R_drew)); exact HO_5.out) gb123 (Nat.le_of_eq hg.symm)) hb); have n1_ := Aside0.mk (below_step (by repeat (first | (with_reducible first | exact HB.out | apply below_alloc | apply pw_below_drewN | apply below_drew1) | exact HB.out)) hb); have n2_ := Aside0.mk (hbox); have n3_ := Aside0.mk ((by rw [hg]; exact (below_size (by repeat (first | (with_reducible first | exact HB.out | apply below_alloc | apply pw_below_drewN | apply below_drew1) | exact HB.out))) : w.heap.size ≤ gb123)); have n4_ := Aside0.mk ((by rw [hg]; exact (below_size (by repeat (first | (with_reducible first | exact HB.out | apply below_alloc | apply pw_below_drewN | apply below_drew1) | exact HB.out))) : w.heap.size ≤ gb123)); clear HO_5; clear HB; have HO_5 := n0_; have HB := n1_; have BK123 := n2_; have GW123 := n3_; have GE123 := n4_; clear n0_ n1_ n2_ n3_ n4_; clear hb hbox hg; have hcz21_0 : w20.cell? ⟨gb123, 0, none⟩ = some (.int .i64 0) := (blk_cell BK123.out 0).trans rfl; have hcz21_1 : w20.cell? ⟨gb123, 1, none⟩ = some (.string (⟨#[]⟩ : ByteArray)) := (blk_cell BK123.out 1).trans rfl; have hcz21_2 : w20.cell? ⟨gb123, 2, none⟩ = some (.int .i64 0) := (blk_cell BK123.out 2).trans rfl; have hcz21_3 : w20.cell? ⟨gb123, 3, none⟩ = some (.int .i64 0) := (blk_cell BK123.out 3).trans rfl; have hfz21_0 := blk_frozen BK123.out 0; have hfz21_1 := blk_frozen BK123.out 1; have hfz21_2 := blk_frozen BK123.out 2; have hfz21_3 := blk_frozen BK123.out 3; obtain ⟨Ao22, co22, eo22⟩ := Kd.R_slice HO_5.out; subst eo22))
             refine gen3_ (A := fun w_ => Below w.heap.size w w_) (B := fun w_ => w_.heap[gb123]? = some (.cells #[.int .i64 t117, .string t118, .int .i64 t119, .int .i64 x6_1] 32 (0, 0))) (C := fun w_ => Kd.R k32 32 w_ w.heap.size (fun k_ => k_ ≠ gb123) (.slice Ao22 x5_1.length co22) x5_1) (P := fun w_ => Code.wp Tryz.prog _ _ _ w_) _ ?ha ?hb ?hc ?_
             case ha => exact (by repeat (first | (with_reducible first | exact HB.out | apply below_alloc | apply pw_below_drewN | apply below_drew1 | refine below_set ?_ GE123.out) | exact HB.out))
             case hb => exact (by (with_reducible repeat (first | refine blk_drewN ?_ _ | refine blk_drew ?_ | refine blk_alloc ?_ _)); refine blk_put (cs := #[.int .i64 t117, .string t118, .int .i64 t119, .int .i64 t120]) ?_ 3 _ rfl; (with_reducible repeat (first | refine blk_drewN ?_ _ | refine blk_drew ?_ | refine blk_alloc ?_ _)); refine blk_put (cs := #[.int .i64 t117, .string t118, .int .i64 t119, .int .i64 0]) ?_ 3 _ rfl; (with_reducible repeat (first | refine blk_drewN ?_ _ | refine blk_drew ?_ | refine blk_alloc ?_ _)); refine blk_put (cs := #[.int .i64 t117, .string t118, .int .i64 0, .int .i64 0]) ?_ 2 _ rfl; (with_reducible repeat (first | refine blk_drewN ?_ _ | refine blk_drew ?_ | refine blk_alloc ?_ _)); refine blk_put (cs := #[.int .i64 t117, .string (⟨#[]⟩ : ByteArray), .int .i64 0, .int .i64 0]) ?_ 1 _ rfl; (with_reducible repeat (first | refine blk_drewN ?_ _ | refine blk_drew ?_ | refine blk_alloc ?_ _)); refine blk_put (cs := #[.int .i64 0, .string (⟨#[]⟩ : ByteArray), .int .i64 0, .int .i64 0]) ?_ 0 _ rfl; (with_reducible repeat (first | refine blk_drewN ?_ _ | refine blk_drew ?_ | refine blk_alloc ?_ _)); exact BK123.out)
             case hc => exact (by (with_reducible repeat (first | apply Kd.R_alloc | apply Kd.R_drewN | apply Kd.R_drew)); exact Kd.R_mono (Kd.R_far (p := ⟨gb123, 3, none⟩) (Kd.R_far (p := ⟨gb123, 3, none⟩) (Kd.R_far (p := ⟨gb123, 2, none⟩) (Kd.R_far (p := ⟨gb123, 1, none⟩) (Kd.R_far (p := ⟨gb123, 0, none⟩) (Kd.R_mono HO_5.out (fun k_ hk => (⟨hk, hk.2⟩ : _ ∧ k_ ≠ gb123))) (fun _ hk => hk.2) (.int .i64 t117)) (fun _ hk => hk.2) (.string t118)) (fun _ hk => hk.2) (.int .i64 t119)) (fun _ hk => hk.2) (.int .i64 t120)) (fun _ hk => hk.2) (.int .i64 x6_1)) (fun _ hk => hk.1.2))
             clear BK123; clear HB
             clear hcz21_0 hcz21_1 hcz21_2 hcz21_3 hfz21_0 hfz21_1 hfz21_2 hfz21_3
             clear HO_5
             intro wz hB0_ hK0_ hO0_
             have HB := Aside0.mk hB0_; have BK123 := Aside0.mk hK0_; have HO_5 := Aside0.mk hO0_; clear hB0_ hK0_ hO0_
             have hcz90_0 : wz.cell? ⟨gb123, 0, none⟩ = some (.int .i64 t117) := (blk_cell BK123.out 0).trans rfl
             have hfz90_0 := blk_frozen BK123.out 0
             have hcz90_1 : wz.cell? ⟨gb123, 1, none⟩ = some (.string t118) := (blk_cell BK123.out 1).trans rfl
             have hfz90_1 := blk_frozen BK123.out 1
             have hcz90_2 : wz.cell? ⟨gb123, 2, none⟩ = some (.int .i64 t119) := (blk_cell BK123.out 2).trans rfl
             have hfz90_2 := blk_frozen BK123.out 2
             have hcz90_3 : wz.cell? ⟨gb123, 3, none⟩ = some (.int .i64 x6_1) := (blk_cell BK123.out 3).trans rfl
             have hfz90_3 := blk_frozen BK123.out 3
             show Code.wp Tryz.prog _ _ _ wz
             go_wp2_with (first | ((with_reducible refine gate_builtin (b := .append) (xs := #[.tmp 38, .tmp 40]) rfl ?_); at_builtin; refine Kd.R_append k32 (w0 := w) w.heap.size rfl (.tmp 38) (.tmp 40) 22 32 (.agg #[(.int .i64 0), (.string ⟨#[]⟩), (.int .i64 0), (.int .i64 0)]) 40 rfl Tryz.underlying22 info32 rfl (by decide) (by (try clear hji15w); (try clear hji15); omega) (.slice Ao22 x5_1.length co22) x5_1 (⟨t117, t118, t119, x6_1⟩ : S32) [.int .i64 t117, .string t118, .int .i64 t119, .int .i64 x6_1] (fun k_ => k_ ≠ gb123) (fun _ => False) rfl (by first | (go_simp; done) | (go_simp; rfl)) ?aP (fun _ hk => hk.elim) ?aF ?aO ?aB ?aS ?aL ?_; (case aP => exact k32_mkM _ _ _ (⟨t117, t118, t119, x6_1⟩ : S32)); (case aB => exact (by repeat (first | (with_reducible first | exact HB.out | apply below_alloc | apply pw_below_drewN | apply below_drew1 | refine below_set ?_ GE123.out) | exact HB.out))); (case aF => exact (fun k_ hk => Kd.freshB (g := gb123) (o := .cells #[.int .i64 t117, .string t118, .int .i64 t119, .int .i64 x6_1] 32 (0, 0)) (by (with_reducible repeat (first | refine blk_drewN ?_ _ | refine blk_drew ?_ | refine blk_alloc ?_ _)); exact BK123.out) k_ hk)); (case aO => exact (by (with_reducible repeat (first | apply Kd.R_alloc | apply Kd.R_drewN | apply Kd.R_drew)); exact HO_5.out)); (case aS => exact (below_size (by repeat (first | (with_reducible first | exact HB.out | apply below_alloc | apply pw_below_drewN | apply below_drew1 | refine below_set ?_ GE123.out) | exact HB.out)))); (case aL => have := LMc14.out; (try clear hji15w); (try clear hji15); omega); intro v125 w23 ho hb hg hat; rw [← Ny124.out] at ho; have n1_ := Aside0.mk (hb); have n2_ := Aside0.mk (ho); clear BK123; clear HB; clear HO_5; have HB := n1_; have HO126 := n2_; clear n1_ n2_; clear ho hb hg hat) | ((with_reducible refine gate_callee (f := 33) rfl ?_); refine goesL_ (some 49) rfl rfl Tryz.func33 (by kernel_rfl) rfl #[.string (a0.extract ((ji15) : Int).toNat a0.size)] rfl (by (try simp only [List.map_toArray, List.map_cons, List.map_nil]); first | done | (simp only [hji15]; rfl) | rfl | (simp only [List.length_drop, List.length_take]; rfl)) ?_; (with_reducible refine (lex_blank.calls k1 (a0.extract ((ji15) : Int).toNat a0.size) t127 _ A18.out).mono ?_); rintro e w' ⟨rfl, ⟨nd, rfl⟩⟩; refine ⟨_, rfl, ?_⟩))
             go_roundg k1
             case measure => have := HK1.out; omega
             case rel => exact ⟨(y124), (wrap64 ((ji15) + t127)), (by first | rfl | (simp; done) | (simp only [← hji15] <;> (first | rfl | (simp; done))) | (congr 1; symm; assumption) | (congr 1; assumption) | (simp [*]; done)), H', ⟨by have := HK1.out; omega⟩, ⟨by (with_reducible repeat (first | apply Kd.R_alloc | apply Kd.R_drewN | apply Kd.R_drew)); exact Kd.R_mono HO126.out (fun _ hk => trivial)⟩, ⟨by repeat (first | (with_reducible first | exact HB.out | apply below_alloc | apply pw_below_drewN | apply below_drew1 | refine below_set ?_ GE123.out) | exact HB.out)⟩⟩
            ·rw [if_neg c17] at H
             exact absurd H (by simp)
           ·rw [if_neg c16] at H
            exact absurd H (by simp)
          ·rw [if_neg c14] at H
           exact absurd H (by simp)
        ·replace c8 := Bool.eq_false_iff.mpr c8
         subst c8
         have H1 : (some (([] : List (S32)), x6_1, 10)) = some (r1, r2, r3) := by rw [if_neg (show ¬ (false = true) by decide)] at H; exact H
         clear H
         have H := H1
         clear H1
         simp only [Option.some.injEq, Prod.mk.injEq] at H
         obtain ⟨rfl, rfl, rfl⟩ := H
         go_wp2_with (first | ((with_reducible refine gate_callee (f := 31) rfl ?_); refine goesL_ (some 23) rfl rfl Tryz.func31 (by kernel_rfl) rfl #[.string (a0.extract (x6_1 : Int).toNat a0.size)] rfl (by (try simp only [List.map_toArray, List.map_cons, List.map_nil]); first | done | rfl | (simp only [List.length_drop, List.length_take]; rfl)) ?_; (with_reducible refine (lex_one.calls (a0.extract (x6_1 : Int).toNat a0.size) t117 t118 t119 t120 t121 false _ ?side1 A7.out).mono ?_); (case side1 => exact EnvOk.below HE.out (by repeat (first | (with_reducible first | exact HB.out | apply below_alloc | apply pw_below_drewN | apply below_drew1) | exact HB.out))); rintro e w24 ⟨rfl, hb⟩; refine ⟨_, rfl, ?_⟩; have n0_ := Aside0.mk (Kd.R_below (by (with_reducible repeat (first | apply Kd.R_alloc | apply Kd.R_drewN | apply Kd.R_drew)); exact HO_5.out) hb); have n1_ := Aside0.mk (below_step (by repeat (first | (with_reducible first | exact HB.out | apply below_alloc | apply pw_below_drewN | apply below_drew1) | exact HB.out)) hb); clear HO_5; clear HB; have HO_5 := n0_; have HB := n1_; clear n0_ n1_; (try clear hb); (try clear hb2); (try clear hk); (try clear hi)) | ((with_reducible refine gate_dst (N := 7) rfl ?_); refine box_event ?hg (N := 7) ?hd (cs := #[.int .i64 0, .string (⟨#[]⟩ : ByteArray), .int .i64 0, .int .i64 0]) (t := 32) ?hr ?_; (case hd => rfl); (case hg => rfl); (case hr => first | (go_simp; done) | (go_simp; rfl)); intro gb123 hg w25 hbox hb; have n0_ := Aside0.mk (Kd.R_below (Kd.R_elderB (by (with_reducible repeat (first | apply Kd.R_alloc | apply Kd.R_drewN | apply Kd.R_drew)); exact HO_5.out) gb123 (Nat.le_of_eq hg.symm)) hb); have n1_ := Aside0.mk (below_step (by repeat (first | (with_reducible first | exact HB.out | apply below_alloc | apply pw_below_drewN | apply below_drew1) | exact HB.out)) hb); have n2_ := Aside0.mk (hbox); have n3_ := Aside0.mk ((by rw [hg]; exact (below_size (by repeat (first | (with_reducible first | exact HB.out | apply below_alloc | apply pw_below_drewN | apply below_drew1) | exact HB.out))) : w.heap.size ≤ gb123)); have n4_ := Aside0.mk ((by rw [hg]; exact (below_size (by repeat (first | (with_reducible first | exact HB.out | apply below_alloc | apply pw_below_drewN | apply below_drew1) | exact HB.out))) : w.heap.size ≤ gb123)); clear HO_5; clear HB; have HO_5 := n0_; have HB := n1_; have BK123 := n2_; have GW123 := n3_; have GE123 := n4_; clear n0_ n1_ n2_ n3_ n4_; clear hb hbox hg; have hcz26_0 : w25.cell? ⟨gb123, 0, none⟩ = some (.int .i64 0) := (blk_cell BK123.out 0).trans rfl; have hcz26_1 : w25.cell? ⟨gb123, 1, none⟩ = some (.string (⟨#[]⟩ : ByteArray)) := (blk_cell BK123.out 1).trans rfl; have hcz26_2 : w25.cell? ⟨gb123, 2, none⟩ = some (.int .i64 0) := (blk_cell BK123.out 2).trans rfl; have hcz26_3 : w25.cell? ⟨gb123, 3, none⟩ = some (.int .i64 0) := (blk_cell BK123.out 3).trans rfl; have hfz26_0 := blk_frozen BK123.out 0; have hfz26_1 := blk_frozen BK123.out 1; have hfz26_2 := blk_frozen BK123.out 2; have hfz26_3 := blk_frozen BK123.out 3))
         go_ret3
         exact ⟨_, by first | rfl | (simp [errW_none, errW_some] <;> rfl) | (simp [*, errW_none, errW_some] <;> rfl), by first | exact Kd.R_nil _ _ _ _ _ | exact Kd.N_nil _ _ _ _ _ | exact Kd.V_nil _ _ _ _ _ | exact Kd.Q_nil _ _ _ _ _ | exact Kd.S_nil _ _ _ _ _, by repeat (first | (with_reducible first | exact HB.out | apply below_alloc | apply pw_below_drewN | apply below_drew1 | refine below_set ?_ GE123.out) | exact HB.out)⟩
       ·rw [if_neg c6] at H
        exact absurd H (by simp)
      ·rw [if_neg c5] at H
       exact absurd H (by simp)
     ·rw [if_neg c4] at H
      have c4b0 : decide (x6_1 < (a0.size : Int)) = false := decide_eq_false c4
      clear c4
      simp only [Option.some.injEq, Prod.mk.injEq] at H
      obtain ⟨rfl, rfl, rfl⟩ := H
      go_wp2
      go_ret3
      exact ⟨_, by first | rfl | (simp [errW_none, errW_some] <;> rfl) | (simp [*, errW_none, errW_some] <;> rfl), by (with_reducible repeat (first | apply Kd.R_alloc | apply Kd.R_drewN | apply Kd.R_drew)); exact HO_5.out, by repeat (first | (with_reducible first | exact HB.out | apply below_alloc | apply pw_below_drewN | apply below_drew1) | exact HB.out)⟩

end Go.Proofs.YtaikpnenegifnaaGreatDoor.XL

/- strings.Join: the texts with the separator between them. -/
namespace Go.Proofs.YtaikpnenegifnaaGreatDoor
open Go.RowKit Go.Proofs.YtaikpnenegifnaaGreatDoorW.PrintWords
def strings_Join.f (xs : List ByteArray) (sep : ByteArray) : Option ByteArray :=
  if xs.length ≤ 1000000 ∧ (Lib.join (xs.map (·.data.toList)) sep.data.toList).length ≤ 1000000000 then some ⟨(Lib.join (xs.map (·.data.toList)) sep.data.toList).toArray⟩ else none
theorem strings_Join.calls (A : Option Addr) (c : Nat) (xs : List ByteArray) (sep r : ByteArray) (w : World) (hC : Kd.string.C w A xs.length xs) (hc : xs.length ≤ c) (h : strings_Join.f xs sep = some r) :
    Calls Tryz.prog 29 #[.slice A xs.length c, .string sep] w fun e w' => e = .returned (.string r) ∧ Below w.heap.size w w' := by
  unfold strings_Join.f at h
  split at h
  · rename_i hs
    obtain rfl := Option.some.inj h
    cases xs with
    | nil =>
      refine (Tryz.strings_Join_none A c sep w).mono ?_
      rintro e w' ⟨rfl, rfl⟩
      exact ⟨rfl, Below.refl _ _⟩
    | cons x xs =>
      have hcell : ∀ (j : Nat) y, (x :: xs)[j]? = some y → ∃ ad, A = some ad ∧ w.cell? (ad.add j) = some (.string y) := by
        intro j y hj
        have hlt : j < (x :: xs).length := by
          rcases Nat.lt_or_ge j (x :: xs).length with hl | hl
          · exact hl
          · rw [List.getElem?_eq_none hl] at hj; cases hj
        obtain ⟨ad, cs, hA, hl, hK, hcs⟩ := Kd.C_get hC ⟨#[]⟩ (j : Int) (by omega) (by omega)
        have hK' : cs = [.string y] := by
          have e : (x :: xs).getD (j : Int).toNat ⟨#[]⟩ = y := by
            rw [Int.toNat_natCast, List.getD_eq_getElem?_getD, hj, Option.getD_some]
          have : cs = [Value.string ((x :: xs).getD (j : Int).toNat ⟨#[]⟩)] := hK
          rw [this, e]
        subst hK'
        have := hcs 0 (.string y) rfl
        exact ⟨ad, hA, by simpa [Kd.string, Kd.scalar] using this⟩
      obtain ⟨ad, hA, h0⟩ := hcell 0 x rfl
      obtain ⟨b, o, sp⟩ := ad
      obtain ⟨e0, n0, hsh, -, hsp⟩ := World.shape?_of_cell? h0
      have hsp' : sp = none := by simpa [Addr.add] using hsp
      subst hsp'
      have hblk : b < w.heap.size := by
        rcases Nat.lt_or_ge b w.heap.size with hl | hl
        · exact hl
        · have hb : (Addr.add ⟨b, o, none⟩ 0).block = b := rfl
          rw [hb] at hsh
          simp [World.shape?, Array.getElem?_eq_none hl] at hsh
      rw [hA]
      refine Tryz.strings_Join b o c (x :: xs) sep w ?_ hblk (by omega) hc (by omega)
      intro j y hj
      obtain ⟨ad', hA', h1⟩ := hcell j y hj
      rw [hA] at hA'
      obtain rfl := Option.some.inj hA'
      cases j with
      | zero => simpa [Addr.add] using h1
      | succ j => simpa [Addr.add] using h1
  · cases h
end Go.Proofs.YtaikpnenegifnaaGreatDoor

/- lex.Right, way by way: what it returns on each way through it. -/
namespace Go.Proofs.YtaikpnenegifnaaGreatDoor
set_option linter.unusedSimpArgs false
set_option linter.unusedVariables false
open Go.RowKit Go.Proofs.YtaikpnenegifnaaGreatDoorW.PrintWords Go.Proofs.YtaikpnenegifnaaGreatDoor.XL

set_option maxRecDepth 100000 in
set_option maxHeartbeats 1000000 in
theorem right_lo (kd : Int) (t : ByteArray) (n p : Int) (w : World) (hE : EnvOk w) (h1 : kd < 1) :
    Calls Tryz.prog 12 #[.agg #[.int .i64 kd, .string t, .int .i64 n, .int .i64 p]] w fun e w' => e = .returned (.bool false) ∧ Below w.heap.size w w' := by
  have e1 : decide (kd < 1) = true := by first | exact decide_eq_true (by omega) | exact decide_eq_false (by omega)
  clear h1
  go_enter Tryz.func12, Tryz.ntmps12
  go_wp2
  all_goals
    go_ret
    refine ⟨by first | rfl | (simp; done) | (simp; first | exact ⟨by assumption, by assumption, by assumption⟩ | (intros; first | assumption | contradiction)), ?_⟩
    exact (Below.refl _ _).alloc (Nat.le_refl _) _

set_option maxRecDepth 100000 in
set_option maxHeartbeats 1000000 in
theorem right_hi (kd : Int) (t : ByteArray) (n p : Int) (w : World) (hE : EnvOk w) (h1 : 8 < kd) :
    Calls Tryz.prog 12 #[.agg #[.int .i64 kd, .string t, .int .i64 n, .int .i64 p]] w fun e w' => e = .returned (.bool false) ∧ Below w.heap.size w w' := by
  have e1 : decide (kd < 1) = false := by first | exact decide_eq_true (by omega) | exact decide_eq_false (by omega)
  have e8 : decide (8 < kd) = true := by first | exact decide_eq_true (by omega) | exact decide_eq_false (by omega)
  clear h1
  go_enter Tryz.func12, Tryz.ntmps12
  go_wp2
  all_goals
    go_ret
    refine ⟨by first | rfl | (simp; done) | (simp; first | exact ⟨by assumption, by assumption, by assumption⟩ | (intros; first | assumption | contradiction)), ?_⟩
    exact (Below.refl _ _).alloc (Nat.le_refl _) _

set_option maxRecDepth 100000 in
set_option maxHeartbeats 1000000 in
theorem right_long (kd : Int) (t : ByteArray) (n p : Int) (w : World) (hE : EnvOk w) (h1 : 1 ≤ kd) (h8 : kd ≤ 8) (h1000 : 1000 < t.size) :
    Calls Tryz.prog 12 #[.agg #[.int .i64 kd, .string t, .int .i64 n, .int .i64 p]] w fun e w' => e = .returned (.bool false) ∧ Below w.heap.size w w' := by
  have e1 : decide (kd < 1) = false := by first | exact decide_eq_true (by omega) | exact decide_eq_false (by omega)
  have e8 : decide (8 < kd) = false := by first | exact decide_eq_true (by omega) | exact decide_eq_false (by omega)
  have e9 : decide ((1000 : Int) < (t.size : Int)) = true := by first | exact decide_eq_true (by omega) | exact decide_eq_false (by omega)
  clear h1 h8 h1000
  go_enter Tryz.func12, Tryz.ntmps12
  go_wp2
  all_goals
    go_ret
    refine ⟨by first | rfl | (simp; done) | (simp; first | exact ⟨by assumption, by assumption, by assumption⟩ | (intros; first | assumption | contradiction)), ?_⟩
    exact (Below.refl _ _).alloc (Nat.le_refl _) _

set_option maxRecDepth 100000 in
set_option maxHeartbeats 1000000 in
theorem right_none (kd : Int) (t : ByteArray) (n p : Int) (w : World) (hE : EnvOk w) (h1 : 1 ≤ kd) (h8 : kd ≤ 8) (h1000 : t.size ≤ 1000) (s : ByteArray) (hT : lex_told.f kd t n p = some s) (h0 : (s.toList == ([] : List UInt8)) = true) :
    Calls Tryz.prog 12 #[.agg #[.int .i64 kd, .string t, .int .i64 n, .int .i64 p]] w fun e w' => e = .returned (.bool false) ∧ Below w.heap.size w w' := by
  have HT := Aside0.mk hT
  clear hT
  have e1 : decide (kd < 1) = false := by first | exact decide_eq_true (by omega) | exact decide_eq_false (by omega)
  have e8 : decide (8 < kd) = false := by first | exact decide_eq_true (by omega) | exact decide_eq_false (by omega)
  have e9 : decide ((1000 : Int) < (t.size : Int)) = false := by first | exact decide_eq_true (by omega) | exact decide_eq_false (by omega)
  clear h1 h8 h1000
  go_enter Tryz.func12, Tryz.ntmps12
  go_wp2_with (first | (go_at_call 28; refine (lex_told.calls kd t n p s _ ?ce HT.out).mono ?_; (case ce => (refine hE.below ?_; repeat (first | refine pw_below_drewN ?_ _ | exact (Below.refl _ _).alloc (Nat.le_refl _) _))); rintro e w1 ⟨rfl, hb⟩; have HB1 : Aside0 (Box4 w w1 (.int .i64 kd) (.string t) (.int .i64 n) (.int .i64 p)) := ⟨by first | exact Box4.start hb | exact Box4.start1 hb | exact Box4.start2 hb⟩; clear hb; obtain ⟨m10, m11, m12, m13, g10, g11, g12, g13, lt1, _⟩ := HB1.out))
  all_goals
    go_ret
    refine ⟨by first | rfl | (simp; done) | (simp; first | exact ⟨by assumption, by assumption, by assumption⟩ | (intros; first | assumption | contradiction)), ?_⟩
    exact HB1.out.bel

set_option maxRecDepth 100000 in
set_option maxHeartbeats 1000000 in
theorem right_no (kd : Int) (t : ByteArray) (n p : Int) (w : World) (hE : EnvOk w) (h1 : 1 ≤ kd) (h8 : kd ≤ 8) (h1000 : t.size ≤ 1000) (s : ByteArray) (hT : lex_told.f kd t n p = some s) (h0 : (s.toList == ([] : List UInt8)) = false) (r1 : Int) (r2 : ByteArray) (r3 r4 r5 : Int) (hO : lex_one.f s = some (r1, r2, r3, r4, r5, false))  :
    Calls Tryz.prog 12 #[.agg #[.int .i64 kd, .string t, .int .i64 n, .int .i64 p]] w fun e w' => e = .returned (.bool false) ∧ Below w.heap.size w w' := by
  have HT := Aside0.mk hT
  have HO := Aside0.mk hO
  clear hT hO
  have e1 : decide (kd < 1) = false := by first | exact decide_eq_true (by omega) | exact decide_eq_false (by omega)
  have e8 : decide (8 < kd) = false := by first | exact decide_eq_true (by omega) | exact decide_eq_false (by omega)
  have e9 : decide ((1000 : Int) < (t.size : Int)) = false := by first | exact decide_eq_true (by omega) | exact decide_eq_false (by omega)
  clear h1 h8 h1000
  go_enter Tryz.func12, Tryz.ntmps12
  go_wp2_with (first | (go_at_call 28; refine (lex_told.calls kd t n p s _ ?ce HT.out).mono ?_; (case ce => (refine hE.below ?_; repeat (first | refine pw_below_drewN ?_ _ | exact (Below.refl _ _).alloc (Nat.le_refl _) _))); rintro e w1 ⟨rfl, hb⟩; have HB1 : Aside0 (Box4 w w1 (.int .i64 kd) (.string t) (.int .i64 n) (.int .i64 p)) := ⟨by first | exact Box4.start hb | exact Box4.start1 hb | exact Box4.start2 hb⟩; clear hb; obtain ⟨m10, m11, m12, m13, g10, g11, g12, g13, lt1, _⟩ := HB1.out) | (go_at_call 31; refine (lex_one.calls s r1 r2 r3 r4 r5 false _ ?cf HO.out).mono ?_; (case cf => exact hE.below HB1.out.bel); rintro e w2 ⟨rfl, hb⟩; have HB2 := Aside0.mk (HB1.out.step hb); clear hb; obtain ⟨m20, m21, m22, m23, g20, g21, g22, g23, lt2, _⟩ := HB2.out; have ne1 : ¬ w.heap.size = w2.heap.size := (by omega); have ne2 : ¬ w2.heap.size = w.heap.size := (by omega)))
  all_goals
    go_ret
    refine ⟨by first | rfl | (simp; done) | (simp; first | exact ⟨by assumption, by assumption, by assumption⟩ | (intros; first | assumption | contradiction)), ?_⟩
    repeat (first | exact HB2.out.bel | refine Below.setCell ?_ (by first | simp | omega | (simp; omega)) _ | refine pw_below_drewN ?_ _ | refine Below.alloc ?_ (by first | omega | (simp; omega)) _)

set_option maxRecDepth 100000 in
set_option maxHeartbeats 1000000 in
theorem right_part (kd : Int) (t : ByteArray) (n p : Int) (w : World) (hE : EnvOk w) (h1 : 1 ≤ kd) (h8 : kd ≤ 8) (h1000 : t.size ≤ 1000) (s : ByteArray) (hT : lex_told.f kd t n p = some s) (h0 : (s.toList == ([] : List UInt8)) = false) (r1 : Int) (r2 : ByteArray) (r3 r4 r5 : Int) (hO : lex_one.f s = some (r1, r2, r3, r4, r5, true)) (h5 : (r5 == (s.size : Int)) = false) :
    Calls Tryz.prog 12 #[.agg #[.int .i64 kd, .string t, .int .i64 n, .int .i64 p]] w fun e w' => e = .returned (.bool false) ∧ Below w.heap.size w w' := by
  have HT := Aside0.mk hT
  have HO := Aside0.mk hO
  clear hT hO
  have e1 : decide (kd < 1) = false := by first | exact decide_eq_true (by omega) | exact decide_eq_false (by omega)
  have e8 : decide (8 < kd) = false := by first | exact decide_eq_true (by omega) | exact decide_eq_false (by omega)
  have e9 : decide ((1000 : Int) < (t.size : Int)) = false := by first | exact decide_eq_true (by omega) | exact decide_eq_false (by omega)
  clear h1 h8 h1000
  go_enter Tryz.func12, Tryz.ntmps12
  go_wp2_with (first | (go_at_call 28; refine (lex_told.calls kd t n p s _ ?ce HT.out).mono ?_; (case ce => (refine hE.below ?_; repeat (first | refine pw_below_drewN ?_ _ | exact (Below.refl _ _).alloc (Nat.le_refl _) _))); rintro e w1 ⟨rfl, hb⟩; have HB1 : Aside0 (Box4 w w1 (.int .i64 kd) (.string t) (.int .i64 n) (.int .i64 p)) := ⟨by first | exact Box4.start hb | exact Box4.start1 hb | exact Box4.start2 hb⟩; clear hb; obtain ⟨m10, m11, m12, m13, g10, g11, g12, g13, lt1, _⟩ := HB1.out) | (go_at_call 31; refine (lex_one.calls s r1 r2 r3 r4 r5 true _ ?cf HO.out).mono ?_; (case cf => exact hE.below HB1.out.bel); rintro e w2 ⟨rfl, hb⟩; have HB2 := Aside0.mk (HB1.out.step hb); clear hb; obtain ⟨m20, m21, m22, m23, g20, g21, g22, g23, lt2, _⟩ := HB2.out; have ne1 : ¬ w.heap.size = w2.heap.size := (by omega); have ne2 : ¬ w2.heap.size = w.heap.size := (by omega)))
  all_goals
    go_ret
    refine ⟨by first | rfl | (simp; done) | (simp; first | exact ⟨by assumption, by assumption, by assumption⟩ | (intros; first | assumption | contradiction)), ?_⟩
    repeat (first | exact HB2.out.bel | refine Below.setCell ?_ (by first | simp | omega | (simp; omega)) _ | refine pw_below_drewN ?_ _ | refine Below.alloc ?_ (by first | omega | (simp; omega)) _)

set_option maxRecDepth 100000 in
set_option maxHeartbeats 1000000 in
theorem right_eq (kd : Int) (t : ByteArray) (n p : Int) (w : World) (hE : EnvOk w) (h1 : 1 ≤ kd) (h8 : kd ≤ 8) (h1000 : t.size ≤ 1000) (s : ByteArray) (hT : lex_told.f kd t n p = some s) (h0 : (s.toList == ([] : List UInt8)) = false) (r1 : Int) (r2 : ByteArray) (r3 r4 r5 : Int) (hO : lex_one.f s = some (r1, r2, r3, r4, r5, true)) (h5 : (r5 == (s.size : Int)) = true) :
    Calls Tryz.prog 12 #[.agg #[.int .i64 kd, .string t, .int .i64 n, .int .i64 p]] w fun e w' => e = .returned (.bool (r1 == kd && (r2.toList == t.toList && r3 == n))) ∧ Below w.heap.size w w' := by
  have HT := Aside0.mk hT
  have HO := Aside0.mk hO
  clear hT hO
  have e1 : decide (kd < 1) = false := by first | exact decide_eq_true (by omega) | exact decide_eq_false (by omega)
  have e8 : decide (8 < kd) = false := by first | exact decide_eq_true (by omega) | exact decide_eq_false (by omega)
  have e9 : decide ((1000 : Int) < (t.size : Int)) = false := by first | exact decide_eq_true (by omega) | exact decide_eq_false (by omega)
  clear h1 h8 h1000
  go_enter Tryz.func12, Tryz.ntmps12
  go_wp2_with (first | (go_at_call 28; refine (lex_told.calls kd t n p s _ ?ce HT.out).mono ?_; (case ce => (refine hE.below ?_; repeat (first | refine pw_below_drewN ?_ _ | exact (Below.refl _ _).alloc (Nat.le_refl _) _))); rintro e w1 ⟨rfl, hb⟩; have HB1 : Aside0 (Box4 w w1 (.int .i64 kd) (.string t) (.int .i64 n) (.int .i64 p)) := ⟨by first | exact Box4.start hb | exact Box4.start1 hb | exact Box4.start2 hb⟩; clear hb; obtain ⟨m10, m11, m12, m13, g10, g11, g12, g13, lt1, _⟩ := HB1.out) | (go_at_call 31; refine (lex_one.calls s r1 r2 r3 r4 r5 true _ ?cf HO.out).mono ?_; (case cf => exact hE.below HB1.out.bel); rintro e w2 ⟨rfl, hb⟩; have HB2 := Aside0.mk (HB1.out.step hb); clear hb; obtain ⟨m20, m21, m22, m23, g20, g21, g22, g23, lt2, _⟩ := HB2.out; have ne1 : ¬ w.heap.size = w2.heap.size := (by omega); have ne2 : ¬ w2.heap.size = w.heap.size := (by omega)))
  all_goals
    go_ret
    refine ⟨by first | rfl | (simp; done) | (simp; first | exact ⟨by assumption, by assumption, by assumption⟩ | (intros; first | assumption | contradiction)), ?_⟩
    repeat (first | exact HB2.out.bel | refine Below.setCell ?_ (by first | simp | omega | (simp; omega)) _ | refine pw_below_drewN ?_ _ | refine Below.alloc ?_ (by first | omega | (simp; omega)) _)

end Go.Proofs.YtaikpnenegifnaaGreatDoor

/- lex.one and told, in plain Lean: what LexSpec says; no program in sight. -/
namespace Go.Proofs.YtaikpnenegifnaaGreatDoor
set_option linter.unusedSimpArgs false
set_option linter.unusedVariables false
open Go.RowKit Go.Proofs.YtaikpnenegifnaaGreatDoorW.PrintWords Go.Proofs.YtaikpnenegifnaaGreatDoor.XL

theorem name_res (l : List UInt8) (hl : l.length ≤ 1000000) (h0 : 0 < l.length) : ∃ q, lex_name.f (B l) = some q ∧ OneRes (nameL l) q := by
  unfold lex_name.f
  rw [if_pos ⟨by rw [sz_B]; exact hl, by rw [sz_B]; exact h0⟩]
  refine ⟨_, rfl, ?_⟩
  rw [show (B l).data.toList = l from rfl]
  cases nameL l with
  | none => rfl
  | some p => obtain ⟨⟨a, b, c⟩, m⟩ := p; rfl
theorem number_res (c : UInt8) (r : List UInt8) (hl : (c :: r).length ≤ 1000000) (hc : c = 45 ∨ isD c = true) : ∃ q, lex_number.f (B (c :: r)) = some q ∧ OneRes (if c = 45 then negL r else numTokL c (c :: r)) q := by
  unfold lex_number.f
  rw [if_pos (by rw [sz_B]; exact hl), show (B (c :: r)).data.toList = c :: r from rfl, numberL_cons, if_pos hc]
  refine ⟨_, rfl, ?_⟩
  cases (if c = 45 then negL r else numTokL c (c :: r)) with
  | none => rfl
  | some p => obtain ⟨⟨a, b, c⟩, m⟩ := p; rfl
theorem text_res (c : UInt8) (r : List UInt8) (hL : (c :: r).length ≤ 1000000) (k : Nat) (hk : 2000020 ≤ k) : ∃ q, lex_text.f k (B (c :: r)) = some q ∧ OneRes (match textL r with
      | some (t, n) => if t.length ≤ 1000 then some ((5, t, 0), n + 1) else none
      | none => none) q := by
  rw [text_f c r hL k (by simp only [List.length_cons] at hL; omega)]
  refine ⟨_, rfl, ?_⟩
  cases textL r with
  | none => rfl
  | some p =>
    obtain ⟨t, n⟩ := p
    simp only []
    by_cases h : t.length ≤ 1000
    · rw [if_pos h, decide_eq_true (by omega)]; rfl
    · rw [if_neg h]
      show decide ((t.length : Int) ≤ 1000) = false
      rw [decide_eq_false_iff_not]; omega
theorem lone (c : UInt8) (r : List UInt8) (hL : (c :: r).length ≤ 1000000) : ∃ q, lex_one.f (B (c :: r)) = some q ∧ OneRes (oneL (c :: r)) q := by
  unfold lex_one.f
  rw [if_pos (by rw [sz_B]; exact hL), show (B (c :: r)).data.toList = c :: r from rfl, oneL]
  unfold loneL
  simp only []
  by_cases hn : (isS c || isG c || c == 95) = true
  · rw [if_pos hn, if_pos hn]
    exact name_res (c :: r) hL (by simp)
  rw [if_neg hn, if_neg hn]
  by_cases h39 : c = 39
  · rw [if_pos h39, if_pos h39]
    exact variable_f c r hL
  rw [if_neg h39, if_neg h39]
  by_cases h34 : c = 34
  · rw [if_pos h34, if_pos h34]
    exact text_res c r hL 3000000 (by omega)
  rw [if_neg h34, if_neg h34]
  by_cases h45 : c = 45
  · subst h45
    rw [if_pos rfl, if_pos rfl]
    by_cases h62 : r.headD 0 = 62
    · rw [if_pos h62, if_pos h62]
      exact ⟨_, rfl, rfl⟩
    · rw [if_neg h62, if_neg h62]
      have := number_res 45 r hL (.inl rfl)
      rw [if_pos rfl] at this
      exact this
  rw [if_neg h45, if_neg h45]
  by_cases hD : isD c = true
  · rw [if_pos hD, if_pos hD]
    have := number_res c r hL (.inr hD)
    rw [if_neg h45] at this
    exact this
  rw [if_neg hD, if_neg hD]
  by_cases hs : c ∈ sgL
  · rw [if_pos hs, if_pos hs]
    exact ⟨_, rfl, rfl⟩
  · rw [if_neg hs, if_neg hs]
    exact ⟨_, rfl, rfl⟩

/-! ### Right, Tell -/
def tokOf (x : S32) : TokL := (x.f0, x.f1.data.toList, x.f2)
def okTok (x : S32) : Prop := x.f1.size ≤ 100000 ∧ -9223372036854775808 ≤ x.f2 ∧ x.f2 ≤ 9223372036854775807
def rightL (t : TokL) : Bool := decide (1 ≤ t.1 ∧ t.1 ≤ 8 ∧ t.2.1.length ≤ 1000 ∧ toldL t ≠ [] ∧ oneL (toldL t) = some (t, (toldL t).length))
theorem told_len_i (n : Int) (h0 : -9223372036854775808 ≤ n) (h1 : n ≤ 9223372036854775807) : (Lib.itoa n).length ≤ 21 := by
  have dl : ∀ m : Nat, m < 10 ^ 20 → (Lib.decDigits m).length ≤ 20 := by
    intro m hm
    obtain ⟨d1, d2, d3, d4, d5⟩ := decDigits_facts m
    by_cases h : (Lib.decDigits m).length ≤ 20
    · exact h
    · exfalso
      have hne : m ≠ 0 := fun e => by
        subst e
        rw [Lib.decDigits, dif_pos (by decide)] at h
        simp at h
      have hh := d5 hne
      -- a numeral of more than 20 digits with no 0 ahead is at least 10^20
      have big : ∀ (l : List UInt8), (∀ b ∈ l, isD b = true) → l ≠ [] → l.head? ≠ some 48 → 10 ^ (l.length - 1) ≤ val l := by
        intro l hd hn hh
        cases l with
        | nil => exact absurd rfl hn
        | cons b l =>
          have h1 := (isD_iff b).1 (hd b (by simp))
          have h2 : b.toNat ≠ 48 := fun e => hh (by simp; exact UInt8.toNat_inj.1 e)
          have hfold : ∀ (l : List UInt8) (a : Nat), a * 10 ^ l.length ≤ l.foldl valF a := by
            intro l
            induction l with
            | nil => intro a; simp
            | cons c l ih =>
              intro a
              simp only [List.foldl_cons, List.length_cons, Nat.pow_succ]
              refine Nat.le_trans ?_ (ih (valF a c))
              rw [Nat.mul_comm (10 ^ l.length) 10, ← Nat.mul_assoc]
              exact Nat.mul_le_mul_right _ (by unfold valF; omega)
          have := hfold l (valF 0 b)
          show 10 ^ ((b :: l).length - 1) ≤ l.foldl valF (valF 0 b)
          rw [List.length_cons, Nat.add_sub_cancel]
          refine Nat.le_trans ?_ this
          exact Nat.le_mul_of_pos_left _ (by unfold valF; omega)
      have := big _ d1 d2 hh
      rw [d3] at this
      have hp : 10 ^ 20 ≤ 10 ^ ((Lib.decDigits m).length - 1) := Nat.pow_le_pow_right (by decide) (by omega)
      omega
  unfold Lib.itoa
  split
  · have := dl n.natAbs (by omega)
    simp; omega
  · have := dl n.toNat (by omega)
    omega
theorem ltold_f (x : S32) (h : okTok x) : lex_told.f x.f0 x.f1 x.f2 x.f3 = some (B (toldL (tokOf x))) := by
  obtain ⟨h1, h2, h3⟩ := h
  unfold lex_told.f toldL tokOf
  simp only []
  by_cases k3 : x.f0 = 3
  · rw [if_pos k3, if_pos k3, if_pos (by omega), show (⟨#[39]⟩ : ByteArray) = B [39] from rfl]
    conv => lhs; rw [B_of x.f1]
    rw [B_app]; rfl
  rw [if_neg k3, if_neg k3]
  by_cases k4 : x.f0 = 4
  · rw [if_pos k4, if_pos k4]
    unfold strconv_Itoa.f
    rw [if_pos ⟨h2, h3⟩]
    rfl
  rw [if_neg k4, if_neg k4]
  by_cases k5 : x.f0 = 5
  · rw [if_pos k5, if_pos k5]
    unfold lex_escaped.f
    rw [if_pos (by omega)]
    rfl
  rw [if_neg k5, if_neg k5]
theorem told_len (x : S32) (h : okTok x) : (toldL (tokOf x)).length ≤ 2 * x.f1.size + 21 := by
  obtain ⟨h1, h2, h3⟩ := h
  have hl : x.f1.data.toList.length = x.f1.size := Array.length_toList
  have hi := told_len_i x.f2 h2 h3
  have he := escB_len x.f1.data.toList
  unfold toldL tokOf
  simp only []
  split
  · simp; omega
  · split
    · omega
    · split
      · simp; omega
      · omega
end Go.Proofs.YtaikpnenegifnaaGreatDoor

/- lex.Right: may a token be told and read back? -/
namespace Go.Proofs.YtaikpnenegifnaaGreatDoor
set_option linter.unusedSimpArgs false
set_option linter.unusedVariables false
open Go.RowKit Go.Proofs.YtaikpnenegifnaaGreatDoorW.PrintWords Go.Proofs.YtaikpnenegifnaaGreatDoor.XL

def lex_Right.f (a0 : Int) (a1 : ByteArray) (a2 a3 : Int) : Option Bool :=
  if a1.size ≤ 100000 ∧ -9223372036854775808 ≤ a2 ∧ a2 ≤ 9223372036854775807 then some (rightL (a0, a1.data.toList, a2)) else none
theorem lex_Right.calls (a0 : Int) (a1 : ByteArray) (a2 a3 : Int) (r : Bool) (w : World) (hE : EnvOk w) (h : lex_Right.f a0 a1 a2 a3 = some r) :
    Calls Tryz.prog 12 #[.agg #[.int .i64 a0, .string a1, .int .i64 a2, .int .i64 a3]] w fun e w' => e = .returned (.bool r) ∧ Below w.heap.size w w' := by
  unfold lex_Right.f at h
  split at h
  · rename_i hok
    obtain rfl := Option.some.inj h
    obtain ⟨x, hx⟩ : ∃ x : S32, x = ⟨a0, a1, a2, a3⟩ := ⟨_, rfl⟩
    have hxo : okTok x := by subst hx; exact hok
    have htx : tokOf x = (a0, a1.data.toList, a2) := by subst hx; rfl
    have hl : a1.data.toList.length = a1.size := Array.length_toList
    have htl := told_len x hxo
    have hT := ltold_f x hxo
    rw [htx] at hT htl
    have hT : lex_told.f a0 a1 a2 a3 = some (B (toldL (a0, a1.data.toList, a2))) := by subst hx; exact hT
    have htl : (toldL (a0, a1.data.toList, a2)).length ≤ 2 * a1.size + 21 := by subst hx; exact htl
    clear hx hxo htx
    have hsz := hok.1
    by_cases c1 : a0 < 1
    · rw [show rightL (a0, a1.data.toList, a2) = false from by unfold rightL; rw [decide_eq_false_iff_not]; intro e; have := e.1; simp at this; omega]
      exact right_lo _ _ _ _ w hE c1
    by_cases c2 : 8 < a0
    · rw [show rightL (a0, a1.data.toList, a2) = false from by unfold rightL; rw [decide_eq_false_iff_not]; intro e; have := e.2.1; simp at this; omega]
      exact right_hi _ _ _ _ w hE c2
    by_cases c3 : 1000 < a1.size
    · rw [show rightL (a0, a1.data.toList, a2) = false from by unfold rightL; rw [decide_eq_false_iff_not]; intro e; have := e.2.2.1; simp at this; omega]
      exact right_long _ _ _ _ w hE (by omega) (by omega) c3
    by_cases c4 : toldL (a0, a1.data.toList, a2) = []
    · rw [show rightL (a0, a1.data.toList, a2) = false from by unfold rightL; rw [decide_eq_false_iff_not]; exact fun e => e.2.2.2.1 c4]
      exact right_none _ _ _ _ w hE (by omega) (by omega) (by omega) _ hT (by rw [tl_B, c4]; rfl)
    have hR : rightL (a0, a1.data.toList, a2) = decide (oneL (toldL (a0, a1.data.toList, a2)) = some ((a0, a1.data.toList, a2), (toldL (a0, a1.data.toList, a2)).length)) := by
      unfold rightL
      rw [decide_eq_decide]
      exact ⟨fun e => e.2.2.2.2, fun e => ⟨by simp; omega, by simp; omega, by simp; omega, c4, e⟩⟩
    have h0 : ((B (toldL (a0, a1.data.toList, a2))).toList == ([] : List UInt8)) = false := by rw [tl_B, beq_eq_false_iff_ne]; exact c4
    rw [hR]
    generalize hTT : toldL (a0, a1.data.toList, a2) = T at *
    cases T with
    | nil => exact absurd rfl c4
    | cons c r =>
      obtain ⟨q, hq, hres⟩ := lone c r (by omega)
      cases ho : oneL (c :: r) with
      | none =>
        rw [ho] at hres
        obtain ⟨q1, q2, q3, q4, q5, q6⟩ := q
        have hres : q6 = false := hres
        subst hres
        exact right_no _ _ _ _ w hE (by omega) (by omega) (by omega) _ hT h0 _ _ _ _ _ hq
      | some p =>
        obtain ⟨⟨kd, t, n⟩, m⟩ := p
        rw [ho] at hres
        have hres : q = (kd, B t, n, 0, (m : Int), true) := hres
        subst hres
        by_cases cm : m = (c :: r).length
        · have hw := right_eq _ _ _ a3 w hE (by omega) (by omega) (by omega) _ hT h0 _ _ _ _ _ hq (by rw [sz_B, beq_iff_eq]; omega)
          have e : (kd == a0 && ((B t).toList == a1.toList && n == a2)) = decide (some ((kd, t, n), m) = some ((a0, a1.data.toList, a2), (c :: r).length)) := by
            rw [Bool.eq_iff_iff]
            simp only [Bool.and_eq_true, beq_iff_eq, decide_eq_true_eq, Option.some.injEq, Prod.mk.injEq, tl_B]
            rw [ByteArray.toList_eq]
            constructor
            · rintro ⟨a, b, d⟩; exact ⟨⟨a, b, d⟩, cm⟩
            · rintro ⟨⟨a, b, d⟩, -⟩; exact ⟨a, b, d⟩
          rw [e] at hw
          exact hw
        · have e : decide (some ((kd, t, n), m) = some ((a0, a1.data.toList, a2), (c :: r).length)) = false := by
            rw [decide_eq_false_iff_not]
            intro e
            simp only [Option.some.injEq, Prod.mk.injEq] at e
            exact cm e.2
          rw [e]
          exact right_part _ _ _ _ w hE (by omega) (by omega) (by omega) _ hT h0 _ _ _ _ _ hq (by rw [sz_B, beq_eq_false_iff_ne]; omega)
  · cases h
end Go.Proofs.YtaikpnenegifnaaGreatDoor
