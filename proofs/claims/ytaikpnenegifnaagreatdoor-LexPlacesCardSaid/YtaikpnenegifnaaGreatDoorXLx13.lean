import Derived.Test.YtaikpnenegifnaaGreatDoorG0
import Derived.Test.YtaikpnenegifnaaGreatDoorXLx1
import Derived.Test.YtaikpnenegifnaaGreatDoorXLx2
import Derived.Test.YtaikpnenegifnaaGreatDoorG12
import Derived.Test.YtaikpnenegifnaaGreatDoorG13
-- written by wip/xp.py, a program of this project's session, over the kit's printer
namespace Go.Proofs.YtaikpnenegifnaaGreatDoor.XL
open Go.RowKit Go.Proofs.YtaikpnenegifnaaGreatDoorW.PrintWords Go.Proofs.YtaikpnenegifnaaGreatDoorW.PrintLast Go.Proofs.YtaikpnenegifnaaGreatDoorW.PrintMore
attribute [local go_sem] max2_int min2_int max_two min_two max_three min_three max_four min_four   -- for this text's walks alone
set_option linter.unusedVariables false
set_option linter.unusedSimpArgs false

/-! ### touchstonelaw06_LexPlaces: function 6 -/
mutual
def touchstonelaw06_LexPlaces.l0 : Nat → ByteArray → List (S32) → List (S32) → Int → Int → Option (Bool)
  | 0, _, _, _, _, _ => none
  | k + 1, x0, x3, x30, x31, x32 => if x32 < x31 then (if 0 ≤ x32 then (if x32 < (x30.length : Int) then (if (wrap64 (x32 + 1)) < (x3.length : Int) then (if 0 ≤ (wrap64 (x32 + 1)) then (touchstonelaw06_LexPlaces.j1 k x0 x3 ((rd_T32 x3 (wrap64 (x32 + 1))).f3) x30 x31 x32 ((rd_T32 x30 x32).f0) ((rd_T32 x30 x32).f1) ((rd_T32 x30 x32).f2) ((rd_T32 x30 x32).f3)) else (none)) else (touchstonelaw06_LexPlaces.j1 k x0 x3 (x0.size : Int) x30 x31 x32 ((rd_T32 x30 x32).f0) ((rd_T32 x30 x32).f1) ((rd_T32 x30 x32).f2) ((rd_T32 x30 x32).f3))) else (none)) else (none)) else (if (x3.length : Int) > 0 then (if 0 < (x3.length : Int) then (if 0 ≤ ((rd_T32 x3 0).f3) then (if ((rd_T32 x3 0).f3) ≤ (x0.size : Int) then ((lex_Lex.f k (x0.extract 0 (((rd_T32 x3 0).f3) : Int).toNat)).bind fun bt213 => ((touchstonelaw01_No.f bt213.2.2).bind fun t218 => (if t218 = 0 then (if (bt213.1.length : Int) = 0 then ((touchstonelaw06_alive.f k).bind fun t219 => (some t219)) else (some false)) else (some false)))) else (none)) else (none)) else (none)) else (if 0 ≤ (x0.size : Int) then (if (x0.size : Int) ≤ (x0.size : Int) then ((lex_Lex.f k (x0.extract 0 ((x0.size : Int) : Int).toNat)).bind fun bt220 => ((touchstonelaw01_No.f bt220.2.2).bind fun t225 => (if t225 = 0 then (if (bt220.1.length : Int) = 0 then ((touchstonelaw06_alive.f k).bind fun t226 => (some t226)) else (some false)) else (some false)))) else (none)) else (none)))
def touchstonelaw06_LexPlaces.j1 : Nat → ByteArray → List (S32) → Int → List (S32) → Int → Int → Int → ByteArray → Int → Int → Option (Bool)
  | 0, _, _, _, _, _, _, _, _, _, _ => none
  | k + 1, x0, x3, x8, x30, x31, x32, x200000, x200001, x200002, x200003 => if x200003 < 0 then (touchstonelaw06_LexPlaces.j2 k x0 x3 x8 x30 x31 x32 true x200000 x200001 x200002 x200003) else (if x200003 ≥ x8 then (touchstonelaw06_LexPlaces.j2 k x0 x3 x8 x30 x31 x32 true x200000 x200001 x200002 x200003) else (touchstonelaw06_LexPlaces.j2 k x0 x3 x8 x30 x31 x32 (decide (x8 > (x0.size : Int))) x200000 x200001 x200002 x200003))
def touchstonelaw06_LexPlaces.j2 : Nat → ByteArray → List (S32) → Int → List (S32) → Int → Int → Bool → Int → ByteArray → Int → Int → Option (Bool)
  | 0, _, _, _, _, _, _, _, _, _, _, _ => none
  | k + 1, x0, x3, x8, x30, x31, x32, x64, x200000, x200001, x200002, x200003 => if x64 = true then (some false) else (if 0 ≤ x200003 then (if x200003 ≤ x8 then (if x8 ≤ (x0.size : Int) then ((lex_Lex.f k (x0.extract (x200003 : Int).toNat (x8 : Int).toNat)).bind fun bt201 => ((touchstonelaw01_No.f bt201.2.2).bind fun t206 => (if t206 = 0 then ((touchstoneref06_Same.f k bt201.1 (([(⟨x200000, x200001, x200002, x200003⟩ : S32)] : List (S32)))).bind fun t210 => (if t210 = true then (if 0 < (bt201.1.length : Int) then (if ((rd_T32 bt201.1 0).f3) = 0 then (touchstonelaw06_LexPlaces.l0 k x0 x3 x30 x31 (wrap64 (x32 + 1))) else (some false)) else (none)) else (some false))) else (some false)))) else (none)) else (none)) else (none))
end
def touchstonelaw06_LexPlaces.f (k : Nat) (a0 : ByteArray) : Option (Bool) := if (a0.size : Int) > 3000 then ((touchstonelaw06_alive.f k).bind fun t190 => (some t190)) else ((lex_Lex.f k a0).bind fun bt191 => ((touchstonelaw01_No.f bt191.2.2).bind fun t196 => (if t196 = 0 then (touchstonelaw06_LexPlaces.l0 k a0 bt191.1 bt191.1 (bt191.1.length : Int) 0) else ((touchstonelaw06_alive.f k).bind fun t197 => (some t197)))))
theorem touchstonelaw06_LexPlaces.mono_l : ∀ k, (∀ y0 y1 y2 y3 y4, LeO (touchstonelaw06_LexPlaces.l0 k y0 y1 y2 y3 y4) (touchstonelaw06_LexPlaces.l0 (k + 1) y0 y1 y2 y3 y4)) ∧ (∀ y0 y1 y2 y3 y4 y5 y6 y7 y8 y9, LeO (touchstonelaw06_LexPlaces.j1 k y0 y1 y2 y3 y4 y5 y6 y7 y8 y9) (touchstonelaw06_LexPlaces.j1 (k + 1) y0 y1 y2 y3 y4 y5 y6 y7 y8 y9)) ∧ (∀ y0 y1 y2 y3 y4 y5 y6 y7 y8 y9 y10, LeO (touchstonelaw06_LexPlaces.j2 k y0 y1 y2 y3 y4 y5 y6 y7 y8 y9 y10) (touchstonelaw06_LexPlaces.j2 (k + 1) y0 y1 y2 y3 y4 y5 y6 y7 y8 y9 y10))
  | 0 => ⟨fun _ _ _ _ _ r h => by simp [touchstonelaw06_LexPlaces.l0] at h, fun _ _ _ _ _ _ _ _ _ _ r h => by simp [touchstonelaw06_LexPlaces.j1] at h, fun _ _ _ _ _ _ _ _ _ _ _ r h => by simp [touchstonelaw06_LexPlaces.j2] at h⟩
  | k + 1 => by
    obtain ⟨ih0, ih1, ih2⟩ := touchstonelaw06_LexPlaces.mono_l k
    refine ⟨?_, ?_, ?_⟩
    · intro y0 y1 y2 y3 y4
      unfold touchstonelaw06_LexPlaces.l0
      repeat' first
      | (with_reducible exact ih0 _ _ _ _ _)
      | (with_reducible exact ih1 _ _ _ _ _ _ _ _ _ _)
      | (with_reducible exact ih2 _ _ _ _ _ _ _ _ _ _ _)
      | (with_reducible exact lex_Lex.mono _ _)
      | (with_reducible exact touchstonelaw06_alive.mono _)
      | (with_reducible exact touchstoneref06_Same.mono _ _ _)
      | (with_reducible exact LeO.refl _)
      | (with_reducible exact LeO.none _)
      | (with_reducible refine LeO.ite ?_ ?_)
      | (with_reducible refine LeO.bind ?_ (fun _ => ?_))
      | exact ih0 _ _ _ _ _
      | exact ih1 _ _ _ _ _ _ _ _ _ _
      | exact ih2 _ _ _ _ _ _ _ _ _ _ _
      | exact lex_Lex.mono _ _
      | exact touchstonelaw06_alive.mono _
      | exact touchstoneref06_Same.mono _ _ _
      | exact LeO.none _
      | refine LeO.ite ?_ ?_
      | refine LeO.bind ?_ (fun _ => ?_)
    · intro y0 y1 y2 y3 y4 y5 y6 y7 y8 y9
      unfold touchstonelaw06_LexPlaces.j1
      repeat' first
      | (with_reducible exact ih0 _ _ _ _ _)
      | (with_reducible exact ih1 _ _ _ _ _ _ _ _ _ _)
      | (with_reducible exact ih2 _ _ _ _ _ _ _ _ _ _ _)
      | (with_reducible exact lex_Lex.mono _ _)
      | (with_reducible exact touchstonelaw06_alive.mono _)
      | (with_reducible exact touchstoneref06_Same.mono _ _ _)
      | (with_reducible exact LeO.refl _)
      | (with_reducible exact LeO.none _)
      | (with_reducible refine LeO.ite ?_ ?_)
      | (with_reducible refine LeO.bind ?_ (fun _ => ?_))
      | exact ih0 _ _ _ _ _
      | exact ih1 _ _ _ _ _ _ _ _ _ _
      | exact ih2 _ _ _ _ _ _ _ _ _ _ _
      | exact lex_Lex.mono _ _
      | exact touchstonelaw06_alive.mono _
      | exact touchstoneref06_Same.mono _ _ _
      | exact LeO.none _
      | refine LeO.ite ?_ ?_
      | refine LeO.bind ?_ (fun _ => ?_)
    · intro y0 y1 y2 y3 y4 y5 y6 y7 y8 y9 y10
      unfold touchstonelaw06_LexPlaces.j2
      repeat' first
      | (with_reducible exact ih0 _ _ _ _ _)
      | (with_reducible exact ih1 _ _ _ _ _ _ _ _ _ _)
      | (with_reducible exact ih2 _ _ _ _ _ _ _ _ _ _ _)
      | (with_reducible exact lex_Lex.mono _ _)
      | (with_reducible exact touchstonelaw06_alive.mono _)
      | (with_reducible exact touchstoneref06_Same.mono _ _ _)
      | (with_reducible exact LeO.refl _)
      | (with_reducible exact LeO.none _)
      | (with_reducible refine LeO.ite ?_ ?_)
      | (with_reducible refine LeO.bind ?_ (fun _ => ?_))
      | exact ih0 _ _ _ _ _
      | exact ih1 _ _ _ _ _ _ _ _ _ _
      | exact ih2 _ _ _ _ _ _ _ _ _ _ _
      | exact lex_Lex.mono _ _
      | exact touchstonelaw06_alive.mono _
      | exact touchstoneref06_Same.mono _ _ _
      | exact LeO.none _
      | refine LeO.ite ?_ ?_
      | refine LeO.bind ?_ (fun _ => ?_)
theorem touchstonelaw06_LexPlaces.mono : ∀ a0 k, LeO (touchstonelaw06_LexPlaces.f k a0) (touchstonelaw06_LexPlaces.f (k + 1) a0) := by
  intro a0 k
  obtain ⟨ih0, ih1, ih2⟩ := touchstonelaw06_LexPlaces.mono_l k
  unfold touchstonelaw06_LexPlaces.f
  repeat' first
      | (with_reducible exact ih0 _ _ _ _ _)
      | (with_reducible exact ih1 _ _ _ _ _ _ _ _ _ _)
      | (with_reducible exact ih2 _ _ _ _ _ _ _ _ _ _ _)
      | (with_reducible exact lex_Lex.mono _ _)
      | (with_reducible exact touchstonelaw06_alive.mono _)
      | (with_reducible exact touchstoneref06_Same.mono _ _ _)
      | (with_reducible exact LeO.refl _)
      | (with_reducible exact LeO.none _)
      | (with_reducible refine LeO.ite ?_ ?_)
      | (with_reducible refine LeO.bind ?_ (fun _ => ?_))
      | exact ih0 _ _ _ _ _
      | exact ih1 _ _ _ _ _ _ _ _ _ _
      | exact ih2 _ _ _ _ _ _ _ _ _ _ _
      | exact lex_Lex.mono _ _
      | exact touchstonelaw06_alive.mono _
      | exact touchstoneref06_Same.mono _ _ _
      | exact LeO.none _
      | refine LeO.ite ?_ ?_
      | refine LeO.bind ?_ (fun _ => ?_)
set_option maxHeartbeats 8000000 in
set_option maxRecDepth 100000 in
theorem touchstonelaw06_LexPlaces.calls (k : Nat) (a0 : ByteArray) (r : Bool) (w : World) (hE : EnvOk w) (h : touchstonelaw06_LexPlaces.f k a0 = some r) :
    Calls Tryz.prog 6 #[.string a0] w fun e w' => e = .returned (.bool r) ∧ Below w.heap.size w w' := by
  have hu32 := Tryz.underlying32
  have HE := Aside0.mk hE
  clear hE
  have HB := Aside0.mk (Below.refl w.heap.size w)
  have H : (if (a0.size : Int) > 3000 then ((touchstonelaw06_alive.f k).bind fun t190 => (some t190)) else ((lex_Lex.f k a0).bind fun bt191 => ((touchstonelaw01_No.f bt191.2.2).bind fun t196 => (if t196 = 0 then (touchstonelaw06_LexPlaces.l0 k a0 bt191.1 bt191.1 (bt191.1.length : Int) 0) else ((touchstonelaw06_alive.f k).bind fun t197 => (some t197)))))) = some r := h
  clear h
  by_cases c2 : (a0.size : Int) > 3000
  ·rw [if_pos c2] at H
   have c2b0 : decide (3000 < (a0.size : Int)) = true := decide_eq_true c2
   have c2b1 : decide (3000 < a0.size) = true := decide_eq_true (by omega)
   clear c2
   replace H := Option.bind_eq_some_iff.mp H
   obtain ⟨t190, A30, H⟩ := H
   replace H : (some t190) = some r := H
   have A3 := Aside0.mk A30
   clear A30
   obtain rfl := Option.some.inj H
   go_enter Tryz.func6, Tryz.ntmps6
   go_wp2_with (first | ((with_reducible refine gate_callee (f := 9) rfl ?_); refine goesL_ (some 19) rfl rfl Tryz.func9 (by kernel_rfl) rfl #[] rfl (by (try simp only [List.map_toArray, List.map_cons, List.map_nil]); first | done | rfl | (simp only [List.length_drop, List.length_take]; rfl)) ?_; (with_reducible refine (touchstonelaw06_alive.calls k  t190 _ ?side1 A3.out).mono ?_); (case side1 => exact EnvOk.below HE.out (by repeat (first | (with_reducible first | exact HB.out | apply below_alloc | apply pw_below_drewN | apply below_drew1) | exact HB.out))); rintro e w4 ⟨rfl, hb⟩; refine ⟨_, rfl, ?_⟩; have n0_ := Aside0.mk (below_step (by repeat (first | (with_reducible first | exact HB.out | apply below_alloc | apply pw_below_drewN | apply below_drew1) | exact HB.out)) hb); clear HB; have HB := n0_; clear n0_; (try clear hb); (try clear hb2); (try clear hk); (try clear hi)))
   go_ret
   exact ⟨by first | rfl | (simp [errW_none, errW_some] <;> rfl) | (simp [*, errW_none, errW_some] <;> rfl), by repeat (first | (with_reducible first | exact HB.out | apply below_alloc | apply pw_below_drewN | apply below_drew1) | exact HB.out)⟩
  ·rw [if_neg c2] at H
   have c2b0 : decide (3000 < (a0.size : Int)) = false := decide_eq_false c2
   have c2b1 : decide (3000 < a0.size) = false := decide_eq_false (by omega)
   clear c2
   replace H := Option.bind_eq_some_iff.mp H
   obtain ⟨⟨t191, t192, t193⟩, A50, H⟩ := H
   replace H : ((touchstonelaw01_No.f t193).bind fun t196 => (if t196 = 0 then (touchstonelaw06_LexPlaces.l0 k a0 t191 t191 (t191.length : Int) 0) else ((touchstonelaw06_alive.f k).bind fun t197 => (some t197)))) = some r := H
   have A5 := Aside0.mk A50
   clear A50
   replace H := Option.bind_eq_some_iff.mp H
   obtain ⟨t196, A60, H⟩ := H
   replace H : (if t196 = 0 then (touchstonelaw06_LexPlaces.l0 k a0 t191 t191 (t191.length : Int) 0) else ((touchstonelaw06_alive.f k).bind fun t197 => (some t197))) = some r := H
   have A6 := Aside0.mk A60
   clear A60
   by_cases c7 : t196 = 0
   ·rw [if_pos c7] at H
    have c7b0 : (t196 == 0) = true := beq_iff_eq.mpr c7
    have c7b1 : (t196 != 0) = false := bne_eq_false_iff_eq.mpr c7
    clear c7
    have H' := Aside0.mk H
    clear H
    go_enter Tryz.func6, Tryz.ntmps6
    go_wp2_with (first | ((with_reducible refine gate_callee (f := 18) rfl ?_); refine goesL_ (some 22) rfl rfl Tryz.func18 (by kernel_rfl) rfl #[.string a0] rfl (by (try simp only [List.map_toArray, List.map_cons, List.map_nil]); first | done | rfl | (simp only [List.length_drop, List.length_take]; rfl)) ?_; (with_reducible refine (lex_Lex.calls k a0 t191 t192 t193 _ ?side1 A5.out).mono ?_); (case side1 => exact EnvOk.below HE.out (by repeat (first | (with_reducible first | exact HB.out | apply below_alloc | apply pw_below_drewN | apply below_drew1) | exact HB.out))); rintro e w8 ⟨v194, rfl, ho0, hb⟩; refine ⟨_, rfl, ?_⟩; have n0_ := Aside0.mk (Kd.R_lower ho0 (below_size (by repeat (first | (with_reducible first | exact HB.out | apply below_alloc | apply pw_below_drewN | apply below_drew1) | exact HB.out)))); have n1_ := Aside0.mk (below_step (by repeat (first | (with_reducible first | exact HB.out | apply below_alloc | apply pw_below_drewN | apply below_drew1) | exact HB.out)) hb); clear HB; have HO195 := n0_; have HB := n1_; clear n0_ n1_; (try clear hb); (try clear hb2); (try clear hk); (try clear hi); (try clear ho0)) | ((with_reducible refine gate_callee (f := 14) rfl ?_); refine goesL_ (some 27) rfl rfl Tryz.func14 (by kernel_rfl) rfl #[.int .i64 t193] rfl (by (try simp only [List.map_toArray, List.map_cons, List.map_nil]); first | done | rfl | (simp only [List.length_drop, List.length_take]; rfl)) ?_; (with_reducible refine (touchstonelaw01_No.calls t193 t196 _ A6.out).mono ?_); rintro e w' ⟨rfl, ⟨nd, rfl⟩⟩; refine ⟨_, rfl, ?_⟩; obtain ⟨Ao9, co9, eo9⟩ := Kd.R_slice HO195.out; subst eo9))
    go_loopg [32] k (fun kq v32 w' => ∃ (x32_1 : Int), v32 = .int .i64 x32_1 ∧ Aside0 (touchstonelaw06_LexPlaces.l0 kq a0 t191 t191 (t191.length : Int) x32_1 = some r) ∧ Aside0 (kq ≤ k) ∧ Aside0 (Kd.R k32 32 w' w.heap.size (fun _ => True) (.slice Ao9 t191.length co9) t191) ∧ Aside0 (Kd.R k32 32 w' w.heap.size (fun _ => True) (.slice Ao9 t191.length co9) t191) ∧ Aside0 (Below w.heap.size w w'))
    case atStart => exact ⟨(0), (by first | rfl | (simp; done) | (simp [*]; done)), H', ⟨Nat.le_refl _⟩, ⟨by (with_reducible repeat (first | apply Kd.R_alloc | apply Kd.R_drewN | apply Kd.R_drew)); exact HO195.out⟩, ⟨by (with_reducible repeat (first | apply Kd.R_alloc | apply Kd.R_drewN | apply Kd.R_drew)); exact HO195.out⟩, ⟨by repeat (first | (with_reducible first | exact HB.out | apply below_alloc | apply pw_below_drewN | apply below_drew1) | exact HB.out)⟩⟩
    case round =>
     clear H'
     try clear c1
     try clear c2
     try clear c2b0
     try clear c2b1
     try clear p2
     try clear c6
     try clear c7
     try clear c7b0
     try clear c7b1
     try clear c9
     obtain ⟨x32_1, rfl, HA, HK1, HO_3, HO_30, HB⟩ := hrel
     cases gk with
     | zero => exact absurd HA.out (by simp [touchstonelaw06_LexPlaces.l0])
     | succ k1 =>
      have H := HA.out
      clear HA
      simp only [touchstonelaw06_LexPlaces.l0] at H
      by_cases c10 : x32_1 < (t191.length : Int)
      ·rw [if_pos c10] at H
       have c10b0 : decide (x32_1 < (t191.length : Int)) = true := decide_eq_true c10
       clear c10
       by_cases c11 : 0 ≤ x32_1
       ·rw [if_pos c11] at H
        have c11b0 : decide (0 ≤ x32_1) = true := decide_eq_true c11
        clear c11
        by_cases c12 : x32_1 < (t191.length : Int)
        ·rw [if_pos c12] at H
         have c12b0 : decide (x32_1 < (t191.length : Int)) = true := decide_eq_true c12
         clear c12
         have HC13 := Aside0.mk H
         clear H
         have p198 : 0 ≤ (x32_1 : Int) := of_decide_eq_true (by first | (with_reducible assumption) | assumption)
         have q198 : x32_1 < (t191.length : Int) := of_decide_eq_true (by first | (with_reducible assumption) | assumption)
         obtain ⟨ad198, e198, hx198_0, hx198_1, hx198_2, hx198_3⟩ := at_T32 (Kd.R_reads' HO_30.out).2.2 x32_1 p198 q198
         cases e198
         replace p198 := eq_true p198
         replace q198 := eq_true q198
         go_upto_if 43 with (first | ((with_reducible refine gate_dst (N := 7) rfl ?_); (try (refine gate_guard (by rfl) ?_; dsimp only)); refine box_event ?hg (N := 7) ?hd (cs := #[.int .i64 0, .string (⟨#[]⟩ : ByteArray), .int .i64 0, .int .i64 0]) (t := 32) ?hr ?_; (case hd => rfl); (case hg => rfl); (case hr => first | (go_simp; done) | (go_simp; rfl)); intro gb199 hg w14 hbox hb; have n0_ := Aside0.mk (Kd.R_below (Kd.R_elderB (by (with_reducible repeat (first | apply Kd.R_alloc | apply Kd.R_drewN | apply Kd.R_drew)); exact HO_3.out) gb199 (Nat.le_of_eq hg.symm)) hb); have n1_ := Aside0.mk (Kd.R_below (Kd.R_elderB (by (with_reducible repeat (first | apply Kd.R_alloc | apply Kd.R_drewN | apply Kd.R_drew)); exact HO_30.out) gb199 (Nat.le_of_eq hg.symm)) hb); have n2_ := Aside0.mk (below_step (by repeat (first | (with_reducible first | exact HB.out | apply below_alloc | apply pw_below_drewN | apply below_drew1) | exact HB.out)) hb); have n3_ := Aside0.mk (hbox); have n4_ := Aside0.mk ((by rw [hg]; exact (below_size (by repeat (first | (with_reducible first | exact HB.out | apply below_alloc | apply pw_below_drewN | apply below_drew1) | exact HB.out))) : w.heap.size ≤ gb199)); have n5_ := Aside0.mk ((by rw [hg]; exact (below_size (by repeat (first | (with_reducible first | exact HB.out | apply below_alloc | apply pw_below_drewN | apply below_drew1) | exact HB.out))) : w.heap.size ≤ gb199)); clear HO_3; clear HO_30; clear HB; have HO_3 := n0_; have HO_30 := n1_; have HB := n2_; have BK199 := n3_; have GW199 := n4_; have GE199 := n5_; clear n0_ n1_ n2_ n3_ n4_ n5_; clear hb hbox hg; have hcz15_0 : w14.cell? ⟨gb199, 0, none⟩ = some (.int .i64 0) := (blk_cell BK199.out 0).trans rfl; have hcz15_1 : w14.cell? ⟨gb199, 1, none⟩ = some (.string (⟨#[]⟩ : ByteArray)) := (blk_cell BK199.out 1).trans rfl; have hcz15_2 : w14.cell? ⟨gb199, 2, none⟩ = some (.int .i64 0) := (blk_cell BK199.out 2).trans rfl; have hcz15_3 : w14.cell? ⟨gb199, 3, none⟩ = some (.int .i64 0) := (blk_cell BK199.out 3).trans rfl; have hfz15_0 := blk_frozen BK199.out 0; have hfz15_1 := blk_frozen BK199.out 1; have hfz15_2 := blk_frozen BK199.out 2; have hfz15_3 := blk_frozen BK199.out 3))
         (try simp only [Act.put, List.setIfInBounds_toArray, List.set_cons_zero, List.set_cons_succ])
         go_cut [8] (fun v8 wc => ∃ (kq : Nat) (x8_12 : Int), v8 = .int .i64 x8_12 ∧ Aside0 (touchstonelaw06_LexPlaces.j1 kq a0 t191 x8_12 t191 (t191.length : Int) x32_1 ((rd_T32 t191 x32_1).f0) ((rd_T32 t191 x32_1).f1) ((rd_T32 t191 x32_1).f2) ((rd_T32 t191 x32_1).f3) = some r) ∧ Aside0 (kq ≤ k1) ∧ Aside0 (Kd.R k32 32 wc w.heap.size (fun k_ => k_ ≠ gb199) (.slice (some ad198) t191.length co9) t191) ∧ Aside0 (Kd.R k32 32 wc w.heap.size (fun k_ => k_ ≠ gb199) (.slice (some ad198) t191.length co9) t191) ∧ Aside0 (wc.heap[gb199]? = some (.cells #[.int .i64 ((rd_T32 t191 x32_1).f0), .string ((rd_T32 t191 x32_1).f1), .int .i64 ((rd_T32 t191 x32_1).f2), .int .i64 ((rd_T32 t191 x32_1).f3)] 32 (0, 0))) ∧ Aside0 (Below w.heap.size w wc))
         case first =>
          have H := HC13.out
          clear HC13
          by_cases c16 : (wrap64 (x32_1 + 1)) < (t191.length : Int)
          ·rw [if_pos c16] at H
           have c16b0 : decide ((wrap64 (x32_1 + 1)) < (t191.length : Int)) = true := decide_eq_true c16
           clear c16
           (first | rw [c16b0] | (simp only [i64_w, i32_w]; rw [c16b0]) | rw [c16b2] | skip)
           obtain ⟨ji17, hji17⟩ : ∃ j_ : Int, (wrap64 (x32_1 + 1)) = j_ := ⟨_, rfl⟩
           replace H : (if 0 ≤ (ji17) then (touchstonelaw06_LexPlaces.j1 k1 a0 t191 ((rd_T32 t191 (ji17)).f3) t191 (t191.length : Int) x32_1 ((rd_T32 t191 x32_1).f0) ((rd_T32 t191 x32_1).f1) ((rd_T32 t191 x32_1).f2) ((rd_T32 t191 x32_1).f3)) else (none)) = some r := by first | (rw [hji17] at H; exact H) | (simp only [hji17] at H ⊢; exact H)
           (try rw [hji17] at c16b0)
           have hji17w : (IntKind.i64.wrap (x32_1 + 1)) = ji17 := (i64_w _).trans hji17
           by_cases c18 : 0 ≤ (ji17)
           ·rw [if_pos c18] at H
            have c18b0 : decide (0 ≤ (ji17)) = true := decide_eq_true c18
            clear c18
            have H' := Aside0.mk H
            clear H
            have p200 : 0 ≤ ((ji17) : Int) := of_decide_eq_true (by first | (with_reducible assumption) | assumption)
            have q200 : (ji17) < (t191.length : Int) := of_decide_eq_true (by first | (with_reducible assumption) | assumption)
            obtain ⟨ad200, e200, hx200_0, hx200_1, hx200_2, hx200_3⟩ := at_T32 (Kd.R_reads' HO_3.out).2.2 (ji17) p200 q200
            obtain rfl : ad198 = ad200 := (by injection e200)
            have hn200_0 : ad198.block ≠ gb199 := Kd.own_blk (Kd.R_away HO_3.out (fun _ hk => hk.2))
            have hn200_1 : ad198.block ≠ gb199 := Kd.own_blk (Kd.R_away HO_3.out (fun _ hk => hk.2))
            have hn200_2 : ad198.block ≠ gb199 := Kd.own_blk (Kd.R_away HO_3.out (fun _ hk => hk.2))
            have hn200_3 : ad198.block ≠ gb199 := Kd.own_blk (Kd.R_away HO_3.out (fun _ hk => hk.2))
            replace hx200_0 := (cell_far (p := ⟨gb199, 0, none⟩) (by first | (rw [add_block]; exact hn200_0) | (show (Addr.add _ _).block ≠ _; rw [add_block]; exact hn200_0) | exact hn200_0) (.int .i64 ((rd_T32 t191 x32_1).f0))).trans hx200_0
            replace hx200_1 := (cell_far (p := ⟨gb199, 0, none⟩) (by first | (rw [add_block]; exact hn200_0) | (show (Addr.add _ _).block ≠ _; rw [add_block]; exact hn200_0) | exact hn200_0) (.int .i64 ((rd_T32 t191 x32_1).f0))).trans hx200_1
            replace hx200_2 := (cell_far (p := ⟨gb199, 0, none⟩) (by first | (rw [add_block]; exact hn200_0) | (show (Addr.add _ _).block ≠ _; rw [add_block]; exact hn200_0) | exact hn200_0) (.int .i64 ((rd_T32 t191 x32_1).f0))).trans hx200_2
            replace hx200_3 := (cell_far (p := ⟨gb199, 0, none⟩) (by first | (rw [add_block]; exact hn200_0) | (show (Addr.add _ _).block ≠ _; rw [add_block]; exact hn200_0) | exact hn200_0) (.int .i64 ((rd_T32 t191 x32_1).f0))).trans hx200_3
            replace hx200_0 := (cell_far (p := ⟨gb199, 1, none⟩) (by first | (rw [add_block]; exact hn200_1) | (show (Addr.add _ _).block ≠ _; rw [add_block]; exact hn200_1) | exact hn200_1) (.string ((rd_T32 t191 x32_1).f1))).trans hx200_0
            replace hx200_1 := (cell_far (p := ⟨gb199, 1, none⟩) (by first | (rw [add_block]; exact hn200_1) | (show (Addr.add _ _).block ≠ _; rw [add_block]; exact hn200_1) | exact hn200_1) (.string ((rd_T32 t191 x32_1).f1))).trans hx200_1
            replace hx200_2 := (cell_far (p := ⟨gb199, 1, none⟩) (by first | (rw [add_block]; exact hn200_1) | (show (Addr.add _ _).block ≠ _; rw [add_block]; exact hn200_1) | exact hn200_1) (.string ((rd_T32 t191 x32_1).f1))).trans hx200_2
            replace hx200_3 := (cell_far (p := ⟨gb199, 1, none⟩) (by first | (rw [add_block]; exact hn200_1) | (show (Addr.add _ _).block ≠ _; rw [add_block]; exact hn200_1) | exact hn200_1) (.string ((rd_T32 t191 x32_1).f1))).trans hx200_3
            replace hx200_0 := (cell_far (p := ⟨gb199, 2, none⟩) (by first | (rw [add_block]; exact hn200_2) | (show (Addr.add _ _).block ≠ _; rw [add_block]; exact hn200_2) | exact hn200_2) (.int .i64 ((rd_T32 t191 x32_1).f2))).trans hx200_0
            replace hx200_1 := (cell_far (p := ⟨gb199, 2, none⟩) (by first | (rw [add_block]; exact hn200_2) | (show (Addr.add _ _).block ≠ _; rw [add_block]; exact hn200_2) | exact hn200_2) (.int .i64 ((rd_T32 t191 x32_1).f2))).trans hx200_1
            replace hx200_2 := (cell_far (p := ⟨gb199, 2, none⟩) (by first | (rw [add_block]; exact hn200_2) | (show (Addr.add _ _).block ≠ _; rw [add_block]; exact hn200_2) | exact hn200_2) (.int .i64 ((rd_T32 t191 x32_1).f2))).trans hx200_2
            replace hx200_3 := (cell_far (p := ⟨gb199, 2, none⟩) (by first | (rw [add_block]; exact hn200_2) | (show (Addr.add _ _).block ≠ _; rw [add_block]; exact hn200_2) | exact hn200_2) (.int .i64 ((rd_T32 t191 x32_1).f2))).trans hx200_3
            replace hx200_0 := (cell_far (p := ⟨gb199, 3, none⟩) (by first | (rw [add_block]; exact hn200_3) | (show (Addr.add _ _).block ≠ _; rw [add_block]; exact hn200_3) | exact hn200_3) (.int .i64 ((rd_T32 t191 x32_1).f3))).trans hx200_0
            replace hx200_1 := (cell_far (p := ⟨gb199, 3, none⟩) (by first | (rw [add_block]; exact hn200_3) | (show (Addr.add _ _).block ≠ _; rw [add_block]; exact hn200_3) | exact hn200_3) (.int .i64 ((rd_T32 t191 x32_1).f3))).trans hx200_1
            replace hx200_2 := (cell_far (p := ⟨gb199, 3, none⟩) (by first | (rw [add_block]; exact hn200_3) | (show (Addr.add _ _).block ≠ _; rw [add_block]; exact hn200_3) | exact hn200_3) (.int .i64 ((rd_T32 t191 x32_1).f3))).trans hx200_2
            replace hx200_3 := (cell_far (p := ⟨gb199, 3, none⟩) (by first | (rw [add_block]; exact hn200_3) | (show (Addr.add _ _).block ≠ _; rw [add_block]; exact hn200_3) | exact hn200_3) (.int .i64 ((rd_T32 t191 x32_1).f3))).trans hx200_3
            clear hn200_0
            clear hn200_1
            clear hn200_2
            clear hn200_3
            replace p200 := eq_true p200
            replace q200 := eq_true q200
            go_wp2
            go_meet
            case rel => exact ⟨_, ((rd_T32 t191 (ji17)).f3), (by first | rfl | (simp; done) | (simp only [← hji17] <;> (first | rfl | (simp; done))) | (congr 1; symm; assumption) | (congr 1; assumption) | (simp [*]; done)), H', ⟨by have := HK1.out; first | omega | exact Nat.le_refl _⟩, ⟨by (with_reducible repeat (first | apply Kd.R_alloc | apply Kd.R_drewN | apply Kd.R_drew)); exact Kd.R_mono (Kd.R_far (p := ⟨gb199, 3, none⟩) (Kd.R_far (p := ⟨gb199, 2, none⟩) (Kd.R_far (p := ⟨gb199, 1, none⟩) (Kd.R_far (p := ⟨gb199, 0, none⟩) (Kd.R_mono HO_3.out (fun k_ hk => (⟨hk, hk.2⟩ : _ ∧ k_ ≠ gb199))) (fun _ hk => hk.2) (.int .i64 ((rd_T32 t191 x32_1).f0))) (fun _ hk => hk.2) (.string ((rd_T32 t191 x32_1).f1))) (fun _ hk => hk.2) (.int .i64 ((rd_T32 t191 x32_1).f2))) (fun _ hk => hk.2) (.int .i64 ((rd_T32 t191 x32_1).f3))) (fun _ hk => hk.1.2)⟩, ⟨by (with_reducible repeat (first | apply Kd.R_alloc | apply Kd.R_drewN | apply Kd.R_drew)); exact Kd.R_mono (Kd.R_far (p := ⟨gb199, 3, none⟩) (Kd.R_far (p := ⟨gb199, 2, none⟩) (Kd.R_far (p := ⟨gb199, 1, none⟩) (Kd.R_far (p := ⟨gb199, 0, none⟩) (Kd.R_mono HO_30.out (fun k_ hk => (⟨hk, hk.2⟩ : _ ∧ k_ ≠ gb199))) (fun _ hk => hk.2) (.int .i64 ((rd_T32 t191 x32_1).f0))) (fun _ hk => hk.2) (.string ((rd_T32 t191 x32_1).f1))) (fun _ hk => hk.2) (.int .i64 ((rd_T32 t191 x32_1).f2))) (fun _ hk => hk.2) (.int .i64 ((rd_T32 t191 x32_1).f3))) (fun _ hk => hk.1.2)⟩, ⟨by (with_reducible repeat (first | refine blk_drewN ?_ _ | refine blk_drew ?_ | refine blk_alloc ?_ _)); refine blk_put (cs := #[.int .i64 ((rd_T32 t191 x32_1).f0), .string ((rd_T32 t191 x32_1).f1), .int .i64 ((rd_T32 t191 x32_1).f2), .int .i64 0]) ?_ 3 _ rfl; (with_reducible repeat (first | refine blk_drewN ?_ _ | refine blk_drew ?_ | refine blk_alloc ?_ _)); refine blk_put (cs := #[.int .i64 ((rd_T32 t191 x32_1).f0), .string ((rd_T32 t191 x32_1).f1), .int .i64 0, .int .i64 0]) ?_ 2 _ rfl; (with_reducible repeat (first | refine blk_drewN ?_ _ | refine blk_drew ?_ | refine blk_alloc ?_ _)); refine blk_put (cs := #[.int .i64 ((rd_T32 t191 x32_1).f0), .string (⟨#[]⟩ : ByteArray), .int .i64 0, .int .i64 0]) ?_ 1 _ rfl; (with_reducible repeat (first | refine blk_drewN ?_ _ | refine blk_drew ?_ | refine blk_alloc ?_ _)); refine blk_put (cs := #[.int .i64 0, .string (⟨#[]⟩ : ByteArray), .int .i64 0, .int .i64 0]) ?_ 0 _ rfl; (with_reducible repeat (first | refine blk_drewN ?_ _ | refine blk_drew ?_ | refine blk_alloc ?_ _)); exact BK199.out⟩, ⟨by repeat (first | (with_reducible first | exact HB.out | apply below_alloc | apply pw_below_drewN | apply below_drew1 | refine below_set ?_ GE199.out) | exact HB.out)⟩⟩
           ·rw [if_neg c18] at H
            exact absurd H (by simp)
          ·rw [if_neg c16] at H
           have c16b0 : decide ((wrap64 (x32_1 + 1)) < (t191.length : Int)) = false := decide_eq_false c16
           clear c16
           (first | rw [c16b0] | (simp only [i64_w, i32_w]; rw [c16b0]) | rw [c16b2] | skip)
           have H' := Aside0.mk H
           clear H
           go_wp2
           go_meet
           case rel => exact ⟨_, ((a0.size : Int)), (by first | rfl | (simp; done) | (simp [*]; done)), H', ⟨by have := HK1.out; first | omega | exact Nat.le_refl _⟩, ⟨by (with_reducible repeat (first | apply Kd.R_alloc | apply Kd.R_drewN | apply Kd.R_drew)); exact Kd.R_mono (Kd.R_far (p := ⟨gb199, 3, none⟩) (Kd.R_far (p := ⟨gb199, 2, none⟩) (Kd.R_far (p := ⟨gb199, 1, none⟩) (Kd.R_far (p := ⟨gb199, 0, none⟩) (Kd.R_mono HO_3.out (fun k_ hk => (⟨hk, hk.2⟩ : _ ∧ k_ ≠ gb199))) (fun _ hk => hk.2) (.int .i64 ((rd_T32 t191 x32_1).f0))) (fun _ hk => hk.2) (.string ((rd_T32 t191 x32_1).f1))) (fun _ hk => hk.2) (.int .i64 ((rd_T32 t191 x32_1).f2))) (fun _ hk => hk.2) (.int .i64 ((rd_T32 t191 x32_1).f3))) (fun _ hk => hk.1.2)⟩, ⟨by (with_reducible repeat (first | apply Kd.R_alloc | apply Kd.R_drewN | apply Kd.R_drew)); exact Kd.R_mono (Kd.R_far (p := ⟨gb199, 3, none⟩) (Kd.R_far (p := ⟨gb199, 2, none⟩) (Kd.R_far (p := ⟨gb199, 1, none⟩) (Kd.R_far (p := ⟨gb199, 0, none⟩) (Kd.R_mono HO_30.out (fun k_ hk => (⟨hk, hk.2⟩ : _ ∧ k_ ≠ gb199))) (fun _ hk => hk.2) (.int .i64 ((rd_T32 t191 x32_1).f0))) (fun _ hk => hk.2) (.string ((rd_T32 t191 x32_1).f1))) (fun _ hk => hk.2) (.int .i64 ((rd_T32 t191 x32_1).f2))) (fun _ hk => hk.2) (.int .i64 ((rd_T32 t191 x32_1).f3))) (fun _ hk => hk.1.2)⟩, ⟨by (with_reducible repeat (first | refine blk_drewN ?_ _ | refine blk_drew ?_ | refine blk_alloc ?_ _)); refine blk_put (cs := #[.int .i64 ((rd_T32 t191 x32_1).f0), .string ((rd_T32 t191 x32_1).f1), .int .i64 ((rd_T32 t191 x32_1).f2), .int .i64 0]) ?_ 3 _ rfl; (with_reducible repeat (first | refine blk_drewN ?_ _ | refine blk_drew ?_ | refine blk_alloc ?_ _)); refine blk_put (cs := #[.int .i64 ((rd_T32 t191 x32_1).f0), .string ((rd_T32 t191 x32_1).f1), .int .i64 0, .int .i64 0]) ?_ 2 _ rfl; (with_reducible repeat (first | refine blk_drewN ?_ _ | refine blk_drew ?_ | refine blk_alloc ?_ _)); refine blk_put (cs := #[.int .i64 ((rd_T32 t191 x32_1).f0), .string (⟨#[]⟩ : ByteArray), .int .i64 0, .int .i64 0]) ?_ 1 _ rfl; (with_reducible repeat (first | refine blk_drewN ?_ _ | refine blk_drew ?_ | refine blk_alloc ?_ _)); refine blk_put (cs := #[.int .i64 0, .string (⟨#[]⟩ : ByteArray), .int .i64 0, .int .i64 0]) ?_ 0 _ rfl; (with_reducible repeat (first | refine blk_drewN ?_ _ | refine blk_drew ?_ | refine blk_alloc ?_ _)); exact BK199.out⟩, ⟨by repeat (first | (with_reducible first | exact HB.out | apply below_alloc | apply pw_below_drewN | apply below_drew1 | refine below_set ?_ GE199.out) | exact HB.out)⟩⟩
         case rest =>
          clear HC13
          try clear c1
          try clear p1
          try clear q1
          try clear hx1
          try clear c2
          try clear c2b0
          try clear c2b1
          try clear p2
          try clear q2
          try clear hx2
          try clear c6
          try clear p6
          try clear c7
          try clear c7b0
          try clear c7b1
          try clear c9
          try clear c10
          try clear c10b0
          try clear c11
          try clear c11b0
          try clear c12
          try clear c12b0
          try clear c14
          try clear c16
          try clear c16b0
          try clear c16b2
          try clear c18
          try clear c18b0
          try clear hcz15_0
          try clear hcz15_1
          try clear hcz15_2
          try clear hcz15_3
          try clear hfz15_0
          try clear hfz15_1
          try clear hfz15_2
          try clear hfz15_3
          try clear hx198_0
          try clear hx198_1
          try clear hx198_2
          try clear hx198_3
          try clear hx200_0
          try clear hx200_1
          try clear hx200_2
          try clear hx200_3
          try clear p198
          try clear p2
          try clear p200
          try clear q198
          try clear q200
          obtain ⟨kq, x8_12, rfl, HA, HJ12, HO_3, HO_30, BK199, HB⟩ := hcut
          cases kq with
          | zero => exact absurd HA.out (by simp [touchstonelaw06_LexPlaces.j1])
          | succ kj12 =>
           have H := HA.out
           clear HA
           simp only [touchstonelaw06_LexPlaces.j1] at H
           have HC19 := Aside0.mk H
           clear H
           go_upto_region 12 with (fail)
           go_cut [64] (fun v64 wc => ∃ (kq : Nat) (x64_18 : Bool), v64 = .bool x64_18 ∧ Aside0 (touchstonelaw06_LexPlaces.j2 kq a0 t191 x8_12 t191 (t191.length : Int) x32_1 x64_18 ((rd_T32 t191 x32_1).f0) ((rd_T32 t191 x32_1).f1) ((rd_T32 t191 x32_1).f2) ((rd_T32 t191 x32_1).f3) = some r) ∧ Aside0 (kq ≤ kj12) ∧ Aside0 (Kd.R k32 32 wc w.heap.size (fun k_ => k_ ≠ gb199) (.slice (some ad198) t191.length co9) t191) ∧ Aside0 (Kd.R k32 32 wc w.heap.size (fun k_ => k_ ≠ gb199) (.slice (some ad198) t191.length co9) t191) ∧ Aside0 (wc.heap[gb199]? = some (.cells #[.int .i64 ((rd_T32 t191 x32_1).f0), .string ((rd_T32 t191 x32_1).f1), .int .i64 ((rd_T32 t191 x32_1).f2), .int .i64 ((rd_T32 t191 x32_1).f3)] 32 (0, 0))) ∧ Aside0 (Below w.heap.size w wc))
           case first =>
            have H := HC19.out
            clear HC19
            by_cases c20 : ((rd_T32 t191 x32_1).f3) < 0
            ·rw [if_pos c20] at H
             have c20b0 : decide (((rd_T32 t191 x32_1).f3) < 0) = true := decide_eq_true c20
             clear c20
             (first | rw [c20b0] | (simp only [i64_w, i32_w]; rw [c20b0]) | rw [c20b2] | skip)
             have H' := Aside0.mk H
             clear H
             have hcz21_0 : wc.cell? ⟨gb199, 0, none⟩ = some (.int .i64 ((rd_T32 t191 x32_1).f0)) := (blk_cell BK199.out 0).trans rfl
             have hcz21_1 : wc.cell? ⟨gb199, 1, none⟩ = some (.string ((rd_T32 t191 x32_1).f1)) := (blk_cell BK199.out 1).trans rfl
             have hcz21_2 : wc.cell? ⟨gb199, 2, none⟩ = some (.int .i64 ((rd_T32 t191 x32_1).f2)) := (blk_cell BK199.out 2).trans rfl
             have hcz21_3 : wc.cell? ⟨gb199, 3, none⟩ = some (.int .i64 ((rd_T32 t191 x32_1).f3)) := (blk_cell BK199.out 3).trans rfl
             have hfz21_0 := blk_frozen BK199.out 0
             have hfz21_1 := blk_frozen BK199.out 1
             have hfz21_2 := blk_frozen BK199.out 2
             have hfz21_3 := blk_frozen BK199.out 3
             go_wp2
             go_meet
             case rel => exact ⟨_, (true), (by first | rfl | (simp; done) | (simp [*]; done)), H', ⟨by have := HK1.out; have := HJ12.out; first | omega | exact Nat.le_refl _⟩, ⟨by (with_reducible repeat (first | apply Kd.R_alloc | apply Kd.R_drewN | apply Kd.R_drew)); exact HO_3.out⟩, ⟨by (with_reducible repeat (first | apply Kd.R_alloc | apply Kd.R_drewN | apply Kd.R_drew)); exact HO_30.out⟩, ⟨by (with_reducible repeat (first | refine blk_drewN ?_ _ | refine blk_drew ?_ | refine blk_alloc ?_ _)); exact BK199.out⟩, ⟨by repeat (first | (with_reducible first | exact HB.out | apply below_alloc | apply pw_below_drewN | apply below_drew1 | refine below_set ?_ GE199.out) | exact HB.out)⟩⟩
            ·rw [if_neg c20] at H
             have c20b0 : decide (((rd_T32 t191 x32_1).f3) < 0) = false := decide_eq_false c20
             clear c20
             (first | rw [c20b0] | (simp only [i64_w, i32_w]; rw [c20b0]) | rw [c20b2] | skip)
             by_cases c22 : ((rd_T32 t191 x32_1).f3) ≥ x8_12
             ·rw [if_pos c22] at H
              have c22b0 : decide (x8_12 ≤ ((rd_T32 t191 x32_1).f3)) = true := decide_eq_true c22
              clear c22
              have H' := Aside0.mk H
              clear H
              have hcz23_0 : wc.cell? ⟨gb199, 0, none⟩ = some (.int .i64 ((rd_T32 t191 x32_1).f0)) := (blk_cell BK199.out 0).trans rfl
              have hcz23_1 : wc.cell? ⟨gb199, 1, none⟩ = some (.string ((rd_T32 t191 x32_1).f1)) := (blk_cell BK199.out 1).trans rfl
              have hcz23_2 : wc.cell? ⟨gb199, 2, none⟩ = some (.int .i64 ((rd_T32 t191 x32_1).f2)) := (blk_cell BK199.out 2).trans rfl
              have hcz23_3 : wc.cell? ⟨gb199, 3, none⟩ = some (.int .i64 ((rd_T32 t191 x32_1).f3)) := (blk_cell BK199.out 3).trans rfl
              have hfz23_0 := blk_frozen BK199.out 0
              have hfz23_1 := blk_frozen BK199.out 1
              have hfz23_2 := blk_frozen BK199.out 2
              have hfz23_3 := blk_frozen BK199.out 3
              go_wp2
              go_meet
              case rel => exact ⟨_, (true), (by first | rfl | (simp; done) | (simp [*]; done)), H', ⟨by have := HK1.out; have := HJ12.out; first | omega | exact Nat.le_refl _⟩, ⟨by (with_reducible repeat (first | apply Kd.R_alloc | apply Kd.R_drewN | apply Kd.R_drew)); exact HO_3.out⟩, ⟨by (with_reducible repeat (first | apply Kd.R_alloc | apply Kd.R_drewN | apply Kd.R_drew)); exact HO_30.out⟩, ⟨by (with_reducible repeat (first | refine blk_drewN ?_ _ | refine blk_drew ?_ | refine blk_alloc ?_ _)); exact BK199.out⟩, ⟨by repeat (first | (with_reducible first | exact HB.out | apply below_alloc | apply pw_below_drewN | apply below_drew1 | refine below_set ?_ GE199.out) | exact HB.out)⟩⟩
             ·rw [if_neg c22] at H
              have c22b0 : decide (x8_12 ≤ ((rd_T32 t191 x32_1).f3)) = false := decide_eq_false c22
              clear c22
              have H' := Aside0.mk H
              clear H
              have hcz24_0 : wc.cell? ⟨gb199, 0, none⟩ = some (.int .i64 ((rd_T32 t191 x32_1).f0)) := (blk_cell BK199.out 0).trans rfl
              have hcz24_1 : wc.cell? ⟨gb199, 1, none⟩ = some (.string ((rd_T32 t191 x32_1).f1)) := (blk_cell BK199.out 1).trans rfl
              have hcz24_2 : wc.cell? ⟨gb199, 2, none⟩ = some (.int .i64 ((rd_T32 t191 x32_1).f2)) := (blk_cell BK199.out 2).trans rfl
              have hcz24_3 : wc.cell? ⟨gb199, 3, none⟩ = some (.int .i64 ((rd_T32 t191 x32_1).f3)) := (blk_cell BK199.out 3).trans rfl
              have hfz24_0 := blk_frozen BK199.out 0
              have hfz24_1 := blk_frozen BK199.out 1
              have hfz24_2 := blk_frozen BK199.out 2
              have hfz24_3 := blk_frozen BK199.out 3
              go_wp2
              go_meet
              case rel => exact ⟨_, (decide (x8_12 > (a0.size : Int))), (by first | rfl | (simp; done) | (simp [*]; done)), H', ⟨by have := HK1.out; have := HJ12.out; first | omega | exact Nat.le_refl _⟩, ⟨by (with_reducible repeat (first | apply Kd.R_alloc | apply Kd.R_drewN | apply Kd.R_drew)); exact HO_3.out⟩, ⟨by (with_reducible repeat (first | apply Kd.R_alloc | apply Kd.R_drewN | apply Kd.R_drew)); exact HO_30.out⟩, ⟨by (with_reducible repeat (first | refine blk_drewN ?_ _ | refine blk_drew ?_ | refine blk_alloc ?_ _)); exact BK199.out⟩, ⟨by repeat (first | (with_reducible first | exact HB.out | apply below_alloc | apply pw_below_drewN | apply below_drew1 | refine below_set ?_ GE199.out) | exact HB.out)⟩⟩
           case rest =>
            clear HC19
            try clear c1
            try clear p1
            try clear q1
            try clear hx1
            try clear c2
            try clear c2b0
            try clear c2b1
            try clear p2
            try clear q2
            try clear hx2
            try clear c6
            try clear p6
            try clear c7
            try clear c7b0
            try clear c7b1
            try clear c9
            try clear c10
            try clear c10b0
            try clear c11
            try clear c11b0
            try clear c12
            try clear c12b0
            try clear c14
            try clear c16
            try clear c16b0
            try clear c16b2
            try clear c18
            try clear c18b0
            try clear p19
            try clear q19
            try clear hx19
            try clear c20
            try clear c20b0
            try clear c20b2
            try clear p20
            try clear q20
            try clear hx20
            try clear c22
            try clear c22b0
            try clear hcz15_0
            try clear hcz15_1
            try clear hcz15_2
            try clear hcz15_3
            try clear hcz21_0
            try clear hcz21_1
            try clear hcz21_2
            try clear hcz21_3
            try clear hcz23_0
            try clear hcz23_1
            try clear hcz23_2
            try clear hcz23_3
            try clear hcz24_0
            try clear hcz24_1
            try clear hcz24_2
            try clear hcz24_3
            try clear hfz15_0
            try clear hfz15_1
            try clear hfz15_2
            try clear hfz15_3
            try clear hfz21_0
            try clear hfz21_1
            try clear hfz21_2
            try clear hfz21_3
            try clear hfz23_0
            try clear hfz23_1
            try clear hfz23_2
            try clear hfz23_3
            try clear hfz24_0
            try clear hfz24_1
            try clear hfz24_2
            try clear hfz24_3
            try clear hx198_0
            try clear hx198_1
            try clear hx198_2
            try clear hx198_3
            try clear hx200_0
            try clear hx200_1
            try clear hx200_2
            try clear hx200_3
            try clear p1
            try clear p198
            try clear p2
            try clear p200
            try clear p6
            try clear q1
            try clear q198
            try clear q2
            try clear q200
            obtain ⟨kq, x64_18, rfl, HA, HJ18, HO_3, HO_30, BK199, HB⟩ := hcut
            cases kq with
            | zero => exact absurd HA.out (by simp [touchstonelaw06_LexPlaces.j2])
            | succ kj18 =>
             have H := HA.out
             clear HA
             simp only [touchstonelaw06_LexPlaces.j2] at H
             by_cases c25 : x64_18 = true
             ·subst c25
              have H1 : (some false) = some r := by rw [if_pos rfl] at H; exact H
              clear H
              have H := H1
              clear H1
              obtain rfl := Option.some.inj H
              go_wp2
              go_ret
              exact ⟨by first | rfl | (simp [errW_none, errW_some] <;> rfl) | (simp [*, errW_none, errW_some] <;> rfl), by repeat (first | (with_reducible first | exact HB.out | apply below_alloc | apply pw_below_drewN | apply below_drew1 | refine below_set ?_ GE199.out) | exact HB.out)⟩
             ·replace c25 := Bool.eq_false_iff.mpr c25
              subst c25
              have H1 : (if 0 ≤ ((rd_T32 t191 x32_1).f3) then (if ((rd_T32 t191 x32_1).f3) ≤ x8_12 then (if x8_12 ≤ (a0.size : Int) then ((lex_Lex.f kj18 (a0.extract (((rd_T32 t191 x32_1).f3) : Int).toNat (x8_12 : Int).toNat)).bind fun bt201 => ((touchstonelaw01_No.f bt201.2.2).bind fun t206 => (if t206 = 0 then ((touchstoneref06_Same.f kj18 bt201.1 (([(⟨((rd_T32 t191 x32_1).f0), ((rd_T32 t191 x32_1).f1), ((rd_T32 t191 x32_1).f2), ((rd_T32 t191 x32_1).f3)⟩ : S32)] : List (S32)))).bind fun t210 => (if t210 = true then (if 0 < (bt201.1.length : Int) then (if ((rd_T32 bt201.1 0).f3) = 0 then (touchstonelaw06_LexPlaces.l0 kj18 a0 t191 t191 (t191.length : Int) (wrap64 (x32_1 + 1))) else (some false)) else (none)) else (some false))) else (some false)))) else (none)) else (none)) else (none)) = some r := by rw [if_neg (show ¬ (false = true) by decide)] at H; exact H
              clear H
              have H := H1
              clear H1
              by_cases c26 : 0 ≤ ((rd_T32 t191 x32_1).f3)
              ·rw [if_pos c26] at H
               have c26b0 := eq_true c26
               have c26b1 : decide (0 ≤ ((rd_T32 t191 x32_1).f3)) = true := decide_eq_true c26
               clear c26
               by_cases c27 : ((rd_T32 t191 x32_1).f3) ≤ x8_12
               ·rw [if_pos c27] at H
                have c27b0 := eq_true c27
                have c27b1 : decide (((rd_T32 t191 x32_1).f3) ≤ x8_12) = true := decide_eq_true c27
                clear c27
                by_cases c28 : x8_12 ≤ (a0.size : Int)
                ·rw [if_pos c28] at H
                 have c28b0 := eq_true c28
                 have c28b1 : decide (x8_12 ≤ (a0.size : Int)) = true := decide_eq_true c28
                 clear c28
                 replace H := Option.bind_eq_some_iff.mp H
                 obtain ⟨⟨t201, t202, t203⟩, A290, H⟩ := H
                 replace H : ((touchstonelaw01_No.f t203).bind fun t206 => (if t206 = 0 then ((touchstoneref06_Same.f kj18 t201 (([(⟨((rd_T32 t191 x32_1).f0), ((rd_T32 t191 x32_1).f1), ((rd_T32 t191 x32_1).f2), ((rd_T32 t191 x32_1).f3)⟩ : S32)] : List (S32)))).bind fun t210 => (if t210 = true then (if 0 < (t201.length : Int) then (if ((rd_T32 t201 0).f3) = 0 then (touchstonelaw06_LexPlaces.l0 kj18 a0 t191 t191 (t191.length : Int) (wrap64 (x32_1 + 1))) else (some false)) else (none)) else (some false))) else (some false))) = some r := H
                 have A29 := Aside0.mk A290
                 clear A290
                 replace H := Option.bind_eq_some_iff.mp H
                 obtain ⟨t206, A300, H⟩ := H
                 replace H : (if t206 = 0 then ((touchstoneref06_Same.f kj18 t201 (([(⟨((rd_T32 t191 x32_1).f0), ((rd_T32 t191 x32_1).f1), ((rd_T32 t191 x32_1).f2), ((rd_T32 t191 x32_1).f3)⟩ : S32)] : List (S32)))).bind fun t210 => (if t210 = true then (if 0 < (t201.length : Int) then (if ((rd_T32 t201 0).f3) = 0 then (touchstonelaw06_LexPlaces.l0 kj18 a0 t191 t191 (t191.length : Int) (wrap64 (x32_1 + 1))) else (some false)) else (none)) else (some false))) else (some false)) = some r := H
                 have A30 := Aside0.mk A300
                 clear A300
                 by_cases c31 : t206 = 0
                 ·rw [if_pos c31] at H
                  have c31b0 : (t206 == 0) = true := beq_iff_eq.mpr c31
                  have c31b1 : (t206 != 0) = false := bne_eq_false_iff_eq.mpr c31
                  clear c31
                  obtain ⟨y207, hy207⟩ : ∃ y_ : List (S32), y_ = (([(⟨((rd_T32 t191 x32_1).f0), ((rd_T32 t191 x32_1).f1), ((rd_T32 t191 x32_1).f2), ((rd_T32 t191 x32_1).f3)⟩ : S32)] : List (S32))) := ⟨_, rfl⟩
                  replace H : ((touchstoneref06_Same.f kj18 t201 y207).bind fun t210 => (if t210 = true then (if 0 < (t201.length : Int) then (if ((rd_T32 t201 0).f3) = 0 then (touchstonelaw06_LexPlaces.l0 kj18 a0 t191 t191 (t191.length : Int) (wrap64 (x32_1 + 1))) else (some false)) else (none)) else (some false))) = some r := by first | (rw [hy207]; with_reducible exact H) | (have H2_ := (Option.bind_some _ _).symm.trans H; rw [hy207]; with_reducible exact H2_) | (have H2_ := (Option.bind_some _ _).symm.trans H; with_reducible exact H2_) | with_reducible exact H | (rw [hy207]; exact H) | exact H
                  have Ny207 := Aside0.mk hy207
                  clear hy207
                  replace H := Option.bind_eq_some_iff.mp H
                  obtain ⟨t210, A320, H⟩ := H
                  replace H : (if t210 = true then (if 0 < (t201.length : Int) then (if ((rd_T32 t201 0).f3) = 0 then (touchstonelaw06_LexPlaces.l0 kj18 a0 t191 t191 (t191.length : Int) (wrap64 (x32_1 + 1))) else (some false)) else (none)) else (some false)) = some r := H
                  have A32 := Aside0.mk A320
                  clear A320
                  by_cases c33 : t210 = true
                  ·subst c33
                   have H1 : (if 0 < (t201.length : Int) then (if ((rd_T32 t201 0).f3) = 0 then (touchstonelaw06_LexPlaces.l0 kj18 a0 t191 t191 (t191.length : Int) (wrap64 (x32_1 + 1))) else (some false)) else (none)) = some r := by rw [if_pos rfl] at H; exact H
                   clear H
                   have H := H1
                   clear H1
                   by_cases c34 : 0 < (t201.length : Int)
                   ·rw [if_pos c34] at H
                    have c34b0 : decide (0 < (t201.length : Int)) = true := decide_eq_true c34
                    have c34b1 : decide (0 < t201.length) = true := decide_eq_true (by omega)
                    clear c34
                    by_cases c35 : ((rd_T32 t201 0).f3) = 0
                    ·rw [if_pos c35] at H
                     have c35b0 : (((rd_T32 t201 0).f3) == 0) = true := beq_iff_eq.mpr c35
                     have c35b1 : (((rd_T32 t201 0).f3) != 0) = false := bne_eq_false_iff_eq.mpr c35
                     clear c35
                     have H' := Aside0.mk H
                     clear H
                     have hcz36_0 : wc.cell? ⟨gb199, 0, none⟩ = some (.int .i64 ((rd_T32 t191 x32_1).f0)) := (blk_cell BK199.out 0).trans rfl
                     have hcz36_1 : wc.cell? ⟨gb199, 1, none⟩ = some (.string ((rd_T32 t191 x32_1).f1)) := (blk_cell BK199.out 1).trans rfl
                     have hcz36_2 : wc.cell? ⟨gb199, 2, none⟩ = some (.int .i64 ((rd_T32 t191 x32_1).f2)) := (blk_cell BK199.out 2).trans rfl
                     have hcz36_3 : wc.cell? ⟨gb199, 3, none⟩ = some (.int .i64 ((rd_T32 t191 x32_1).f3)) := (blk_cell BK199.out 3).trans rfl
                     have hfz36_0 := blk_frozen BK199.out 0
                     have hfz36_1 := blk_frozen BK199.out 1
                     have hfz36_2 := blk_frozen BK199.out 2
                     have hfz36_3 := blk_frozen BK199.out 3
                     go_wp2_with (first | ((with_reducible refine gate_callee (f := 18) rfl ?_); refine goesL_ (some 71) rfl rfl Tryz.func18 (by kernel_rfl) rfl #[.string (a0.extract (((rd_T32 t191 x32_1).f3) : Int).toNat (x8_12 : Int).toNat)] rfl (by (try simp only [List.map_toArray, List.map_cons, List.map_nil]); first | done | rfl | (simp only [List.length_drop, List.length_take]; rfl)) ?_; (with_reducible refine (lex_Lex.calls kj18 (a0.extract (((rd_T32 t191 x32_1).f3) : Int).toNat (x8_12 : Int).toNat) t201 t202 t203 _ ?side1 A29.out).mono ?_); (case side1 => exact EnvOk.below HE.out (by repeat (first | (with_reducible first | exact HB.out | apply below_alloc | apply pw_below_drewN | apply below_drew1 | refine below_set ?_ GE199.out) | exact HB.out))); rintro e w37 ⟨v204, rfl, ho0, hb⟩; refine ⟨_, rfl, ?_⟩; have n0_ := Aside0.mk (Kd.R_elder' (by (with_reducible repeat (first | apply Kd.R_alloc | apply Kd.R_drewN | apply Kd.R_drew)); exact HO_3.out) (Kd.R_base ho0) hb); have n1_ := Aside0.mk (Kd.R_elder' (by (with_reducible repeat (first | apply Kd.R_alloc | apply Kd.R_drewN | apply Kd.R_drew)); exact HO_30.out) (Kd.R_base ho0) hb); have n2_ := Aside0.mk (Kd.R_lower (Kd.R_newB (Kd.R_new' (Kd.R_new' ho0 (Kd.R_lt (by (with_reducible repeat (first | apply Kd.R_alloc | apply Kd.R_drewN | apply Kd.R_drew)); exact HO_3.out))) (Kd.R_lt (by (with_reducible repeat (first | apply Kd.R_alloc | apply Kd.R_drewN | apply Kd.R_drew)); exact HO_30.out))) (g := gb199) (o := .cells #[.int .i64 ((rd_T32 t191 x32_1).f0), .string ((rd_T32 t191 x32_1).f1), .int .i64 ((rd_T32 t191 x32_1).f2), .int .i64 ((rd_T32 t191 x32_1).f3)] 32 (0, 0)) (by (with_reducible repeat (first | refine blk_drewN ?_ _ | refine blk_drew ?_ | refine blk_alloc ?_ _)); exact BK199.out)) (below_size (by repeat (first | (with_reducible first | exact HB.out | apply below_alloc | apply pw_below_drewN | apply below_drew1 | refine below_set ?_ GE199.out) | exact HB.out)))); have n3_ := Aside0.mk (blk_below (g := gb199) (o := .cells #[.int .i64 ((rd_T32 t191 x32_1).f0), .string ((rd_T32 t191 x32_1).f1), .int .i64 ((rd_T32 t191 x32_1).f2), .int .i64 ((rd_T32 t191 x32_1).f3)] 32 (0, 0)) (by (with_reducible repeat (first | refine blk_drewN ?_ _ | refine blk_drew ?_ | refine blk_alloc ?_ _)); exact BK199.out) hb); have n4_ := Aside0.mk (below_step (by repeat (first | (with_reducible first | exact HB.out | apply below_alloc | apply pw_below_drewN | apply below_drew1 | refine below_set ?_ GE199.out) | exact HB.out)) hb); clear HO_3; clear HO_30; clear BK199; clear HB; have HO_3 := n0_; have HO_30 := n1_; have HO205 := n2_; have BK199 := n3_; have HB := n4_; clear n0_ n1_ n2_ n3_ n4_; (try clear hb); (try clear hb2); (try clear hk); (try clear hi); (try clear ho0)) | ((with_reducible refine gate_callee (f := 14) rfl ?_); refine goesL_ (some 76) rfl rfl Tryz.func14 (by kernel_rfl) rfl #[.int .i64 t203] rfl (by (try simp only [List.map_toArray, List.map_cons, List.map_nil]); first | done | rfl | (simp only [List.length_drop, List.length_take]; rfl)) ?_; (with_reducible refine (touchstonelaw01_No.calls t203 t206 _ A30.out).mono ?_); rintro e w' ⟨rfl, ⟨nd, rfl⟩⟩; refine ⟨_, rfl, ?_⟩; have hcz38_0 : w37.cell? ⟨gb199, 0, none⟩ = some (.int .i64 ((rd_T32 t191 x32_1).f0)) := (blk_cell BK199.out 0).trans rfl; have hcz38_1 : w37.cell? ⟨gb199, 1, none⟩ = some (.string ((rd_T32 t191 x32_1).f1)) := (blk_cell BK199.out 1).trans rfl; have hcz38_2 : w37.cell? ⟨gb199, 2, none⟩ = some (.int .i64 ((rd_T32 t191 x32_1).f2)) := (blk_cell BK199.out 2).trans rfl; have hcz38_3 : w37.cell? ⟨gb199, 3, none⟩ = some (.int .i64 ((rd_T32 t191 x32_1).f3)) := (blk_cell BK199.out 3).trans rfl; have hfz38_0 := blk_frozen BK199.out 0; have hfz38_1 := blk_frozen BK199.out 1; have hfz38_2 := blk_frozen BK199.out 2; have hfz38_3 := blk_frozen BK199.out 3) | ((with_reducible refine gate_dst (N := 81) rfl ?_); (try (refine gate_guard (by rfl) ?_; dsimp only)); refine Kd.R_lit k32 _ 32 ?hg (N := 81) ?hd (xs := ([(⟨((rd_T32 t191 x32_1).f0), ((rd_T32 t191 x32_1).f1), ((rd_T32 t191 x32_1).f2), ((rd_T32 t191 x32_1).f3)⟩ : S32)] : List (S32))) (inner := [.int .i64 ((rd_T32 t191 x32_1).f0), .string ((rd_T32 t191 x32_1).f1), .int .i64 ((rd_T32 t191 x32_1).f2), .int .i64 ((rd_T32 t191 x32_1).f3)]) (ok := fun _ => True) (okp := fun _ => True) ?hr ?hp (fun _ hk => hk) trivial (Below.refl _ _) (Nat.le_refl _) (by simp) ?_; (case hd => rfl); (case hg => rfl); (case hr => first | (go_simp; done) | (go_simp; rfl)); (case hp => exact (Reps.c4 (show Kd.M k32 _ _ _ (⟨((rd_T32 t191 x32_1).f0), ((rd_T32 t191 x32_1).f1), ((rd_T32 t191 x32_1).f2), ((rd_T32 t191 x32_1).f3)⟩ : S32) [.int .i64 ((rd_T32 t191 x32_1).f0), .string ((rd_T32 t191 x32_1).f1), .int .i64 ((rd_T32 t191 x32_1).f2), .int .i64 ((rd_T32 t191 x32_1).f3)] from (k32_mkM _ _ _ (⟨((rd_T32 t191 x32_1).f0), ((rd_T32 t191 x32_1).f1), ((rd_T32 t191 x32_1).f2), ((rd_T32 t191 x32_1).f3)⟩ : S32) )) (Reps.none _ _))); intro v208 w39 ho40 hb hg_ hnew_; clear hg_ hnew_; (first | rw [← Ny207.out] at ho40 | (simp only [Int.reduceToNat] at ho40; rw [← Ny207.out] at ho40)); have n0_ := Aside0.mk (Kd.R_elder' (by (with_reducible repeat (first | apply Kd.R_alloc | apply Kd.R_drewN | apply Kd.R_drew)); exact HO_3.out) (Kd.R_base ho40) hb); have n1_ := Aside0.mk (Kd.R_elder' (by (with_reducible repeat (first | apply Kd.R_alloc | apply Kd.R_drewN | apply Kd.R_drew)); exact HO_30.out) (Kd.R_base ho40) hb); have n2_ := Aside0.mk (Kd.R_elder' (by (with_reducible repeat (first | apply Kd.R_alloc | apply Kd.R_drewN | apply Kd.R_drew)); exact HO205.out) (Kd.R_base ho40) hb); have n3_ := Aside0.mk (Kd.R_lower (Kd.R_newB (Kd.R_new' (Kd.R_new' (Kd.R_new' ho40 (Kd.R_lt (by (with_reducible repeat (first | apply Kd.R_alloc | apply Kd.R_drewN | apply Kd.R_drew)); exact HO_3.out))) (Kd.R_lt (by (with_reducible repeat (first | apply Kd.R_alloc | apply Kd.R_drewN | apply Kd.R_drew)); exact HO_30.out))) (Kd.R_lt (by (with_reducible repeat (first | apply Kd.R_alloc | apply Kd.R_drewN | apply Kd.R_drew)); exact HO205.out))) (g := gb199) (o := .cells #[.int .i64 ((rd_T32 t191 x32_1).f0), .string ((rd_T32 t191 x32_1).f1), .int .i64 ((rd_T32 t191 x32_1).f2), .int .i64 ((rd_T32 t191 x32_1).f3)] 32 (0, 0)) (by (with_reducible repeat (first | refine blk_drewN ?_ _ | refine blk_drew ?_ | refine blk_alloc ?_ _)); exact BK199.out)) (below_size (by repeat (first | (with_reducible first | exact HB.out | apply below_alloc | apply pw_below_drewN | apply below_drew1 | refine below_set ?_ GE199.out) | exact HB.out)))); have n4_ := Aside0.mk (blk_below (g := gb199) (o := .cells #[.int .i64 ((rd_T32 t191 x32_1).f0), .string ((rd_T32 t191 x32_1).f1), .int .i64 ((rd_T32 t191 x32_1).f2), .int .i64 ((rd_T32 t191 x32_1).f3)] 32 (0, 0)) (by (with_reducible repeat (first | refine blk_drewN ?_ _ | refine blk_drew ?_ | refine blk_alloc ?_ _)); exact BK199.out) hb); have n5_ := Aside0.mk (below_step (by repeat (first | (with_reducible first | exact HB.out | apply below_alloc | apply pw_below_drewN | apply below_drew1 | refine below_set ?_ GE199.out) | exact HB.out)) hb); clear HO_3; clear HO_30; clear HO205; clear BK199; clear HB; have HO_3 := n0_; have HO_30 := n1_; have HO205 := n2_; have HO209 := n3_; have BK199 := n4_; have HB := n5_; clear n0_ n1_ n2_ n3_ n4_ n5_; clear hb ho40; obtain ⟨Ao41, co41, eo41⟩ := Kd.R_slice HO205.out; subst eo41; obtain ⟨Ao42, co42, eo42⟩ := Kd.R_slice HO209.out; subst eo42) | (go_at_call 19; (with_reducible refine (touchstoneref06_Same.calls kj18 _ _ t201 _ _ y207 true _ ?side1 ?side2 ?side3 ?side4 A32.out).mono ?_); (case side1 => repeat (first | exact (Kd.R_reads' HO205.out).2.2 | (with_reducible refine Kd.C_alloc ?_ _) | (with_reducible refine Kd.C_drewN ?_ _) | (with_reducible refine Kd.C_drew ?_))); (case side2 => exact (Kd.R_reads' HO205.out).2.1); (case side3 => repeat (first | exact (Kd.R_reads' HO209.out).2.2 | (with_reducible refine Kd.C_alloc ?_ _) | (with_reducible refine Kd.C_drewN ?_ _) | (with_reducible refine Kd.C_drew ?_))); (case side4 => exact (Kd.R_reads' HO209.out).2.1); rintro e w' ⟨rfl, ⟨nd, rfl⟩⟩; have p211 : 0 ≤ (0 : Int) := (by omega); have q211 : 0 < (t201.length : Int) := of_decide_eq_true (by first | (with_reducible assumption) | assumption); obtain ⟨ad211, e211, hx211_0, hx211_1, hx211_2, hx211_3⟩ := at_T32 (Kd.R_reads' HO205.out).2.2 0 p211 q211; cases e211; have qi211 : (0 < t201.length) = True := eq_true (by omega); (try rw [show ((0 : Int)).toNat = 0 from rfl] at hx211_0); (try rw [show 0 * 4 = 0 from rfl] at hx211_0); (try rw [Addr.add_zero'] at hx211_0); (try rw [show ((0 : Int)).toNat = 0 from rfl] at hx211_1); (try rw [show 0 * 4 = 0 from rfl] at hx211_1); (try rw [Addr.add_zero'] at hx211_1); (try rw [show ((0 : Int)).toNat = 0 from rfl] at hx211_2); (try rw [show 0 * 4 = 0 from rfl] at hx211_2); (try rw [Addr.add_zero'] at hx211_2); (try rw [show ((0 : Int)).toNat = 0 from rfl] at hx211_3); (try rw [show 0 * 4 = 0 from rfl] at hx211_3); (try rw [Addr.add_zero'] at hx211_3); replace p211 := eq_true p211; replace q211 := eq_true q211))
                     go_roundg kj18
                     case measure => have := HK1.out; have := HJ12.out; have := HJ18.out; omega
                     case rel => exact ⟨(wrap64 (x32_1 + 1)), (by first | rfl | (simp; done) | (simp [*]; done)), H', ⟨by have := HK1.out; have := HJ12.out; have := HJ18.out; omega⟩, ⟨by (with_reducible repeat (first | apply Kd.R_alloc | apply Kd.R_drewN | apply Kd.R_drew)); exact Kd.R_mono HO_3.out (fun _ hk => trivial)⟩, ⟨by (with_reducible repeat (first | apply Kd.R_alloc | apply Kd.R_drewN | apply Kd.R_drew)); exact Kd.R_mono HO_30.out (fun _ hk => trivial)⟩, ⟨by repeat (first | (with_reducible first | exact HB.out | apply below_alloc | apply pw_below_drewN | apply below_drew1 | refine below_set ?_ GE199.out) | exact HB.out)⟩⟩
                    ·rw [if_neg c35] at H
                     have c35b0 : (((rd_T32 t201 0).f3) == 0) = false := beq_eq_false_iff_ne.mpr c35
                     have c35b1 : (((rd_T32 t201 0).f3) != 0) = true := bne_iff_ne.mpr c35
                     obtain rfl := Option.some.inj H
                     have hcz43_0 : wc.cell? ⟨gb199, 0, none⟩ = some (.int .i64 ((rd_T32 t191 x32_1).f0)) := (blk_cell BK199.out 0).trans rfl
                     have hcz43_1 : wc.cell? ⟨gb199, 1, none⟩ = some (.string ((rd_T32 t191 x32_1).f1)) := (blk_cell BK199.out 1).trans rfl
                     have hcz43_2 : wc.cell? ⟨gb199, 2, none⟩ = some (.int .i64 ((rd_T32 t191 x32_1).f2)) := (blk_cell BK199.out 2).trans rfl
                     have hcz43_3 : wc.cell? ⟨gb199, 3, none⟩ = some (.int .i64 ((rd_T32 t191 x32_1).f3)) := (blk_cell BK199.out 3).trans rfl
                     have hfz43_0 := blk_frozen BK199.out 0
                     have hfz43_1 := blk_frozen BK199.out 1
                     have hfz43_2 := blk_frozen BK199.out 2
                     have hfz43_3 := blk_frozen BK199.out 3
                     go_wp2_with (first | ((with_reducible refine gate_callee (f := 18) rfl ?_); refine goesL_ (some 71) rfl rfl Tryz.func18 (by kernel_rfl) rfl #[.string (a0.extract (((rd_T32 t191 x32_1).f3) : Int).toNat (x8_12 : Int).toNat)] rfl (by (try simp only [List.map_toArray, List.map_cons, List.map_nil]); first | done | rfl | (simp only [List.length_drop, List.length_take]; rfl)) ?_; (with_reducible refine (lex_Lex.calls kj18 (a0.extract (((rd_T32 t191 x32_1).f3) : Int).toNat (x8_12 : Int).toNat) t201 t202 t203 _ ?side1 A29.out).mono ?_); (case side1 => exact EnvOk.below HE.out (by repeat (first | (with_reducible first | exact HB.out | apply below_alloc | apply pw_below_drewN | apply below_drew1 | refine below_set ?_ GE199.out) | exact HB.out))); rintro e w44 ⟨v204, rfl, ho0, hb⟩; refine ⟨_, rfl, ?_⟩; have n0_ := Aside0.mk (Kd.R_elder' (by (with_reducible repeat (first | apply Kd.R_alloc | apply Kd.R_drewN | apply Kd.R_drew)); exact HO_3.out) (Kd.R_base ho0) hb); have n1_ := Aside0.mk (Kd.R_elder' (by (with_reducible repeat (first | apply Kd.R_alloc | apply Kd.R_drewN | apply Kd.R_drew)); exact HO_30.out) (Kd.R_base ho0) hb); have n2_ := Aside0.mk (Kd.R_lower (Kd.R_newB (Kd.R_new' (Kd.R_new' ho0 (Kd.R_lt (by (with_reducible repeat (first | apply Kd.R_alloc | apply Kd.R_drewN | apply Kd.R_drew)); exact HO_3.out))) (Kd.R_lt (by (with_reducible repeat (first | apply Kd.R_alloc | apply Kd.R_drewN | apply Kd.R_drew)); exact HO_30.out))) (g := gb199) (o := .cells #[.int .i64 ((rd_T32 t191 x32_1).f0), .string ((rd_T32 t191 x32_1).f1), .int .i64 ((rd_T32 t191 x32_1).f2), .int .i64 ((rd_T32 t191 x32_1).f3)] 32 (0, 0)) (by (with_reducible repeat (first | refine blk_drewN ?_ _ | refine blk_drew ?_ | refine blk_alloc ?_ _)); exact BK199.out)) (below_size (by repeat (first | (with_reducible first | exact HB.out | apply below_alloc | apply pw_below_drewN | apply below_drew1 | refine below_set ?_ GE199.out) | exact HB.out)))); have n3_ := Aside0.mk (blk_below (g := gb199) (o := .cells #[.int .i64 ((rd_T32 t191 x32_1).f0), .string ((rd_T32 t191 x32_1).f1), .int .i64 ((rd_T32 t191 x32_1).f2), .int .i64 ((rd_T32 t191 x32_1).f3)] 32 (0, 0)) (by (with_reducible repeat (first | refine blk_drewN ?_ _ | refine blk_drew ?_ | refine blk_alloc ?_ _)); exact BK199.out) hb); have n4_ := Aside0.mk (below_step (by repeat (first | (with_reducible first | exact HB.out | apply below_alloc | apply pw_below_drewN | apply below_drew1 | refine below_set ?_ GE199.out) | exact HB.out)) hb); clear HO_3; clear HO_30; clear BK199; clear HB; have HO_3 := n0_; have HO_30 := n1_; have HO205 := n2_; have BK199 := n3_; have HB := n4_; clear n0_ n1_ n2_ n3_ n4_; (try clear hb); (try clear hb2); (try clear hk); (try clear hi); (try clear ho0)) | ((with_reducible refine gate_callee (f := 14) rfl ?_); refine goesL_ (some 76) rfl rfl Tryz.func14 (by kernel_rfl) rfl #[.int .i64 t203] rfl (by (try simp only [List.map_toArray, List.map_cons, List.map_nil]); first | done | rfl | (simp only [List.length_drop, List.length_take]; rfl)) ?_; (with_reducible refine (touchstonelaw01_No.calls t203 t206 _ A30.out).mono ?_); rintro e w' ⟨rfl, ⟨nd, rfl⟩⟩; refine ⟨_, rfl, ?_⟩; have hcz45_0 : w44.cell? ⟨gb199, 0, none⟩ = some (.int .i64 ((rd_T32 t191 x32_1).f0)) := (blk_cell BK199.out 0).trans rfl; have hcz45_1 : w44.cell? ⟨gb199, 1, none⟩ = some (.string ((rd_T32 t191 x32_1).f1)) := (blk_cell BK199.out 1).trans rfl; have hcz45_2 : w44.cell? ⟨gb199, 2, none⟩ = some (.int .i64 ((rd_T32 t191 x32_1).f2)) := (blk_cell BK199.out 2).trans rfl; have hcz45_3 : w44.cell? ⟨gb199, 3, none⟩ = some (.int .i64 ((rd_T32 t191 x32_1).f3)) := (blk_cell BK199.out 3).trans rfl; have hfz45_0 := blk_frozen BK199.out 0; have hfz45_1 := blk_frozen BK199.out 1; have hfz45_2 := blk_frozen BK199.out 2; have hfz45_3 := blk_frozen BK199.out 3) | ((with_reducible refine gate_dst (N := 81) rfl ?_); (try (refine gate_guard (by rfl) ?_; dsimp only)); refine Kd.R_lit k32 _ 32 ?hg (N := 81) ?hd (xs := ([(⟨((rd_T32 t191 x32_1).f0), ((rd_T32 t191 x32_1).f1), ((rd_T32 t191 x32_1).f2), ((rd_T32 t191 x32_1).f3)⟩ : S32)] : List (S32))) (inner := [.int .i64 ((rd_T32 t191 x32_1).f0), .string ((rd_T32 t191 x32_1).f1), .int .i64 ((rd_T32 t191 x32_1).f2), .int .i64 ((rd_T32 t191 x32_1).f3)]) (ok := fun _ => True) (okp := fun _ => True) ?hr ?hp (fun _ hk => hk) trivial (Below.refl _ _) (Nat.le_refl _) (by simp) ?_; (case hd => rfl); (case hg => rfl); (case hr => first | (go_simp; done) | (go_simp; rfl)); (case hp => exact (Reps.c4 (show Kd.M k32 _ _ _ (⟨((rd_T32 t191 x32_1).f0), ((rd_T32 t191 x32_1).f1), ((rd_T32 t191 x32_1).f2), ((rd_T32 t191 x32_1).f3)⟩ : S32) [.int .i64 ((rd_T32 t191 x32_1).f0), .string ((rd_T32 t191 x32_1).f1), .int .i64 ((rd_T32 t191 x32_1).f2), .int .i64 ((rd_T32 t191 x32_1).f3)] from (k32_mkM _ _ _ (⟨((rd_T32 t191 x32_1).f0), ((rd_T32 t191 x32_1).f1), ((rd_T32 t191 x32_1).f2), ((rd_T32 t191 x32_1).f3)⟩ : S32) )) (Reps.none _ _))); intro v208 w46 ho47 hb hg_ hnew_; clear hg_ hnew_; (first | rw [← Ny207.out] at ho47 | (simp only [Int.reduceToNat] at ho47; rw [← Ny207.out] at ho47)); have n0_ := Aside0.mk (Kd.R_elder' (by (with_reducible repeat (first | apply Kd.R_alloc | apply Kd.R_drewN | apply Kd.R_drew)); exact HO_3.out) (Kd.R_base ho47) hb); have n1_ := Aside0.mk (Kd.R_elder' (by (with_reducible repeat (first | apply Kd.R_alloc | apply Kd.R_drewN | apply Kd.R_drew)); exact HO_30.out) (Kd.R_base ho47) hb); have n2_ := Aside0.mk (Kd.R_elder' (by (with_reducible repeat (first | apply Kd.R_alloc | apply Kd.R_drewN | apply Kd.R_drew)); exact HO205.out) (Kd.R_base ho47) hb); have n3_ := Aside0.mk (Kd.R_lower (Kd.R_newB (Kd.R_new' (Kd.R_new' (Kd.R_new' ho47 (Kd.R_lt (by (with_reducible repeat (first | apply Kd.R_alloc | apply Kd.R_drewN | apply Kd.R_drew)); exact HO_3.out))) (Kd.R_lt (by (with_reducible repeat (first | apply Kd.R_alloc | apply Kd.R_drewN | apply Kd.R_drew)); exact HO_30.out))) (Kd.R_lt (by (with_reducible repeat (first | apply Kd.R_alloc | apply Kd.R_drewN | apply Kd.R_drew)); exact HO205.out))) (g := gb199) (o := .cells #[.int .i64 ((rd_T32 t191 x32_1).f0), .string ((rd_T32 t191 x32_1).f1), .int .i64 ((rd_T32 t191 x32_1).f2), .int .i64 ((rd_T32 t191 x32_1).f3)] 32 (0, 0)) (by (with_reducible repeat (first | refine blk_drewN ?_ _ | refine blk_drew ?_ | refine blk_alloc ?_ _)); exact BK199.out)) (below_size (by repeat (first | (with_reducible first | exact HB.out | apply below_alloc | apply pw_below_drewN | apply below_drew1 | refine below_set ?_ GE199.out) | exact HB.out)))); have n4_ := Aside0.mk (blk_below (g := gb199) (o := .cells #[.int .i64 ((rd_T32 t191 x32_1).f0), .string ((rd_T32 t191 x32_1).f1), .int .i64 ((rd_T32 t191 x32_1).f2), .int .i64 ((rd_T32 t191 x32_1).f3)] 32 (0, 0)) (by (with_reducible repeat (first | refine blk_drewN ?_ _ | refine blk_drew ?_ | refine blk_alloc ?_ _)); exact BK199.out) hb); have n5_ := Aside0.mk (below_step (by repeat (first | (with_reducible first | exact HB.out | apply below_alloc | apply pw_below_drewN | apply below_drew1 | refine below_set ?_ GE199.out) | exact HB.out)) hb); clear HO_3; clear HO_30; clear HO205; clear BK199; clear HB; have HO_3 := n0_; have HO_30 := n1_; have HO205 := n2_; have HO209 := n3_; have BK199 := n4_; have HB := n5_; clear n0_ n1_ n2_ n3_ n4_ n5_; clear hb ho47; obtain ⟨Ao48, co48, eo48⟩ := Kd.R_slice HO205.out; subst eo48; obtain ⟨Ao49, co49, eo49⟩ := Kd.R_slice HO209.out; subst eo49) | (go_at_call 19; (with_reducible refine (touchstoneref06_Same.calls kj18 _ _ t201 _ _ y207 true _ ?side1 ?side2 ?side3 ?side4 A32.out).mono ?_); (case side1 => repeat (first | exact (Kd.R_reads' HO205.out).2.2 | (with_reducible refine Kd.C_alloc ?_ _) | (with_reducible refine Kd.C_drewN ?_ _) | (with_reducible refine Kd.C_drew ?_))); (case side2 => exact (Kd.R_reads' HO205.out).2.1); (case side3 => repeat (first | exact (Kd.R_reads' HO209.out).2.2 | (with_reducible refine Kd.C_alloc ?_ _) | (with_reducible refine Kd.C_drewN ?_ _) | (with_reducible refine Kd.C_drew ?_))); (case side4 => exact (Kd.R_reads' HO209.out).2.1); rintro e w' ⟨rfl, ⟨nd, rfl⟩⟩; have p211 : 0 ≤ (0 : Int) := (by omega); have q211 : 0 < (t201.length : Int) := of_decide_eq_true (by first | (with_reducible assumption) | assumption); obtain ⟨ad211, e211, hx211_0, hx211_1, hx211_2, hx211_3⟩ := at_T32 (Kd.R_reads' HO205.out).2.2 0 p211 q211; cases e211; have qi211 : (0 < t201.length) = True := eq_true (by omega); (try rw [show ((0 : Int)).toNat = 0 from rfl] at hx211_0); (try rw [show 0 * 4 = 0 from rfl] at hx211_0); (try rw [Addr.add_zero'] at hx211_0); (try rw [show ((0 : Int)).toNat = 0 from rfl] at hx211_1); (try rw [show 0 * 4 = 0 from rfl] at hx211_1); (try rw [Addr.add_zero'] at hx211_1); (try rw [show ((0 : Int)).toNat = 0 from rfl] at hx211_2); (try rw [show 0 * 4 = 0 from rfl] at hx211_2); (try rw [Addr.add_zero'] at hx211_2); (try rw [show ((0 : Int)).toNat = 0 from rfl] at hx211_3); (try rw [show 0 * 4 = 0 from rfl] at hx211_3); (try rw [Addr.add_zero'] at hx211_3); replace p211 := eq_true p211; replace q211 := eq_true q211))
                     go_ret
                     exact ⟨by first | rfl | (simp [errW_none, errW_some] <;> rfl) | (simp [*, errW_none, errW_some] <;> rfl), by repeat (first | (with_reducible first | exact HB.out | apply below_alloc | apply pw_below_drewN | apply below_drew1 | refine below_set ?_ GE199.out) | exact HB.out)⟩
                   ·rw [if_neg c34] at H
                    exact absurd H (by simp)
                  ·replace c33 := Bool.eq_false_iff.mpr c33
                   subst c33
                   have H1 : (some false) = some r := by rw [if_neg (show ¬ (false = true) by decide)] at H; exact H
                   clear H
                   have H := H1
                   clear H1
                   obtain rfl := Option.some.inj H
                   have hcz50_0 : wc.cell? ⟨gb199, 0, none⟩ = some (.int .i64 ((rd_T32 t191 x32_1).f0)) := (blk_cell BK199.out 0).trans rfl
                   have hcz50_1 : wc.cell? ⟨gb199, 1, none⟩ = some (.string ((rd_T32 t191 x32_1).f1)) := (blk_cell BK199.out 1).trans rfl
                   have hcz50_2 : wc.cell? ⟨gb199, 2, none⟩ = some (.int .i64 ((rd_T32 t191 x32_1).f2)) := (blk_cell BK199.out 2).trans rfl
                   have hcz50_3 : wc.cell? ⟨gb199, 3, none⟩ = some (.int .i64 ((rd_T32 t191 x32_1).f3)) := (blk_cell BK199.out 3).trans rfl
                   have hfz50_0 := blk_frozen BK199.out 0
                   have hfz50_1 := blk_frozen BK199.out 1
                   have hfz50_2 := blk_frozen BK199.out 2
                   have hfz50_3 := blk_frozen BK199.out 3
                   go_wp2_with (first | ((with_reducible refine gate_callee (f := 18) rfl ?_); refine goesL_ (some 71) rfl rfl Tryz.func18 (by kernel_rfl) rfl #[.string (a0.extract (((rd_T32 t191 x32_1).f3) : Int).toNat (x8_12 : Int).toNat)] rfl (by (try simp only [List.map_toArray, List.map_cons, List.map_nil]); first | done | rfl | (simp only [List.length_drop, List.length_take]; rfl)) ?_; (with_reducible refine (lex_Lex.calls kj18 (a0.extract (((rd_T32 t191 x32_1).f3) : Int).toNat (x8_12 : Int).toNat) t201 t202 t203 _ ?side1 A29.out).mono ?_); (case side1 => exact EnvOk.below HE.out (by repeat (first | (with_reducible first | exact HB.out | apply below_alloc | apply pw_below_drewN | apply below_drew1 | refine below_set ?_ GE199.out) | exact HB.out))); rintro e w51 ⟨v204, rfl, ho0, hb⟩; refine ⟨_, rfl, ?_⟩; have n0_ := Aside0.mk (Kd.R_elder' (by (with_reducible repeat (first | apply Kd.R_alloc | apply Kd.R_drewN | apply Kd.R_drew)); exact HO_3.out) (Kd.R_base ho0) hb); have n1_ := Aside0.mk (Kd.R_elder' (by (with_reducible repeat (first | apply Kd.R_alloc | apply Kd.R_drewN | apply Kd.R_drew)); exact HO_30.out) (Kd.R_base ho0) hb); have n2_ := Aside0.mk (Kd.R_lower (Kd.R_newB (Kd.R_new' (Kd.R_new' ho0 (Kd.R_lt (by (with_reducible repeat (first | apply Kd.R_alloc | apply Kd.R_drewN | apply Kd.R_drew)); exact HO_3.out))) (Kd.R_lt (by (with_reducible repeat (first | apply Kd.R_alloc | apply Kd.R_drewN | apply Kd.R_drew)); exact HO_30.out))) (g := gb199) (o := .cells #[.int .i64 ((rd_T32 t191 x32_1).f0), .string ((rd_T32 t191 x32_1).f1), .int .i64 ((rd_T32 t191 x32_1).f2), .int .i64 ((rd_T32 t191 x32_1).f3)] 32 (0, 0)) (by (with_reducible repeat (first | refine blk_drewN ?_ _ | refine blk_drew ?_ | refine blk_alloc ?_ _)); exact BK199.out)) (below_size (by repeat (first | (with_reducible first | exact HB.out | apply below_alloc | apply pw_below_drewN | apply below_drew1 | refine below_set ?_ GE199.out) | exact HB.out)))); have n3_ := Aside0.mk (blk_below (g := gb199) (o := .cells #[.int .i64 ((rd_T32 t191 x32_1).f0), .string ((rd_T32 t191 x32_1).f1), .int .i64 ((rd_T32 t191 x32_1).f2), .int .i64 ((rd_T32 t191 x32_1).f3)] 32 (0, 0)) (by (with_reducible repeat (first | refine blk_drewN ?_ _ | refine blk_drew ?_ | refine blk_alloc ?_ _)); exact BK199.out) hb); have n4_ := Aside0.mk (below_step (by repeat (first | (with_reducible first | exact HB.out | apply below_alloc | apply pw_below_drewN | apply below_drew1 | refine below_set ?_ GE199.out) | exact HB.out)) hb); clear HO_3; clear HO_30; clear BK199; clear HB; have HO_3 := n0_; have HO_30 := n1_; have HO205 := n2_; have BK199 := n3_; have HB := n4_; clear n0_ n1_ n2_ n3_ n4_; (try clear hb); (try clear hb2); (try clear hk); (try clear hi); (try clear ho0)) | ((with_reducible refine gate_callee (f := 14) rfl ?_); refine goesL_ (some 76) rfl rfl Tryz.func14 (by kernel_rfl) rfl #[.int .i64 t203] rfl (by (try simp only [List.map_toArray, List.map_cons, List.map_nil]); first | done | rfl | (simp only [List.length_drop, List.length_take]; rfl)) ?_; (with_reducible refine (touchstonelaw01_No.calls t203 t206 _ A30.out).mono ?_); rintro e w' ⟨rfl, ⟨nd, rfl⟩⟩; refine ⟨_, rfl, ?_⟩; have hcz52_0 : w51.cell? ⟨gb199, 0, none⟩ = some (.int .i64 ((rd_T32 t191 x32_1).f0)) := (blk_cell BK199.out 0).trans rfl; have hcz52_1 : w51.cell? ⟨gb199, 1, none⟩ = some (.string ((rd_T32 t191 x32_1).f1)) := (blk_cell BK199.out 1).trans rfl; have hcz52_2 : w51.cell? ⟨gb199, 2, none⟩ = some (.int .i64 ((rd_T32 t191 x32_1).f2)) := (blk_cell BK199.out 2).trans rfl; have hcz52_3 : w51.cell? ⟨gb199, 3, none⟩ = some (.int .i64 ((rd_T32 t191 x32_1).f3)) := (blk_cell BK199.out 3).trans rfl; have hfz52_0 := blk_frozen BK199.out 0; have hfz52_1 := blk_frozen BK199.out 1; have hfz52_2 := blk_frozen BK199.out 2; have hfz52_3 := blk_frozen BK199.out 3) | ((with_reducible refine gate_dst (N := 81) rfl ?_); (try (refine gate_guard (by rfl) ?_; dsimp only)); refine Kd.R_lit k32 _ 32 ?hg (N := 81) ?hd (xs := ([(⟨((rd_T32 t191 x32_1).f0), ((rd_T32 t191 x32_1).f1), ((rd_T32 t191 x32_1).f2), ((rd_T32 t191 x32_1).f3)⟩ : S32)] : List (S32))) (inner := [.int .i64 ((rd_T32 t191 x32_1).f0), .string ((rd_T32 t191 x32_1).f1), .int .i64 ((rd_T32 t191 x32_1).f2), .int .i64 ((rd_T32 t191 x32_1).f3)]) (ok := fun _ => True) (okp := fun _ => True) ?hr ?hp (fun _ hk => hk) trivial (Below.refl _ _) (Nat.le_refl _) (by simp) ?_; (case hd => rfl); (case hg => rfl); (case hr => first | (go_simp; done) | (go_simp; rfl)); (case hp => exact (Reps.c4 (show Kd.M k32 _ _ _ (⟨((rd_T32 t191 x32_1).f0), ((rd_T32 t191 x32_1).f1), ((rd_T32 t191 x32_1).f2), ((rd_T32 t191 x32_1).f3)⟩ : S32) [.int .i64 ((rd_T32 t191 x32_1).f0), .string ((rd_T32 t191 x32_1).f1), .int .i64 ((rd_T32 t191 x32_1).f2), .int .i64 ((rd_T32 t191 x32_1).f3)] from (k32_mkM _ _ _ (⟨((rd_T32 t191 x32_1).f0), ((rd_T32 t191 x32_1).f1), ((rd_T32 t191 x32_1).f2), ((rd_T32 t191 x32_1).f3)⟩ : S32) )) (Reps.none _ _))); intro v208 w53 ho54 hb hg_ hnew_; clear hg_ hnew_; (first | rw [← Ny207.out] at ho54 | (simp only [Int.reduceToNat] at ho54; rw [← Ny207.out] at ho54)); have n0_ := Aside0.mk (Kd.R_elder' (by (with_reducible repeat (first | apply Kd.R_alloc | apply Kd.R_drewN | apply Kd.R_drew)); exact HO_3.out) (Kd.R_base ho54) hb); have n1_ := Aside0.mk (Kd.R_elder' (by (with_reducible repeat (first | apply Kd.R_alloc | apply Kd.R_drewN | apply Kd.R_drew)); exact HO_30.out) (Kd.R_base ho54) hb); have n2_ := Aside0.mk (Kd.R_elder' (by (with_reducible repeat (first | apply Kd.R_alloc | apply Kd.R_drewN | apply Kd.R_drew)); exact HO205.out) (Kd.R_base ho54) hb); have n3_ := Aside0.mk (Kd.R_lower (Kd.R_newB (Kd.R_new' (Kd.R_new' (Kd.R_new' ho54 (Kd.R_lt (by (with_reducible repeat (first | apply Kd.R_alloc | apply Kd.R_drewN | apply Kd.R_drew)); exact HO_3.out))) (Kd.R_lt (by (with_reducible repeat (first | apply Kd.R_alloc | apply Kd.R_drewN | apply Kd.R_drew)); exact HO_30.out))) (Kd.R_lt (by (with_reducible repeat (first | apply Kd.R_alloc | apply Kd.R_drewN | apply Kd.R_drew)); exact HO205.out))) (g := gb199) (o := .cells #[.int .i64 ((rd_T32 t191 x32_1).f0), .string ((rd_T32 t191 x32_1).f1), .int .i64 ((rd_T32 t191 x32_1).f2), .int .i64 ((rd_T32 t191 x32_1).f3)] 32 (0, 0)) (by (with_reducible repeat (first | refine blk_drewN ?_ _ | refine blk_drew ?_ | refine blk_alloc ?_ _)); exact BK199.out)) (below_size (by repeat (first | (with_reducible first | exact HB.out | apply below_alloc | apply pw_below_drewN | apply below_drew1 | refine below_set ?_ GE199.out) | exact HB.out)))); have n4_ := Aside0.mk (blk_below (g := gb199) (o := .cells #[.int .i64 ((rd_T32 t191 x32_1).f0), .string ((rd_T32 t191 x32_1).f1), .int .i64 ((rd_T32 t191 x32_1).f2), .int .i64 ((rd_T32 t191 x32_1).f3)] 32 (0, 0)) (by (with_reducible repeat (first | refine blk_drewN ?_ _ | refine blk_drew ?_ | refine blk_alloc ?_ _)); exact BK199.out) hb); have n5_ := Aside0.mk (below_step (by repeat (first | (with_reducible first | exact HB.out | apply below_alloc | apply pw_below_drewN | apply below_drew1 | refine below_set ?_ GE199.out) | exact HB.out)) hb); clear HO_3; clear HO_30; clear HO205; clear BK199; clear HB; have HO_3 := n0_; have HO_30 := n1_; have HO205 := n2_; have HO209 := n3_; have BK199 := n4_; have HB := n5_; clear n0_ n1_ n2_ n3_ n4_ n5_; clear hb ho54; obtain ⟨Ao55, co55, eo55⟩ := Kd.R_slice HO205.out; subst eo55; obtain ⟨Ao56, co56, eo56⟩ := Kd.R_slice HO209.out; subst eo56) | (go_at_call 19; (with_reducible refine (touchstoneref06_Same.calls kj18 _ _ t201 _ _ y207 false _ ?side1 ?side2 ?side3 ?side4 A32.out).mono ?_); (case side1 => repeat (first | exact (Kd.R_reads' HO205.out).2.2 | (with_reducible refine Kd.C_alloc ?_ _) | (with_reducible refine Kd.C_drewN ?_ _) | (with_reducible refine Kd.C_drew ?_))); (case side2 => exact (Kd.R_reads' HO205.out).2.1); (case side3 => repeat (first | exact (Kd.R_reads' HO209.out).2.2 | (with_reducible refine Kd.C_alloc ?_ _) | (with_reducible refine Kd.C_drewN ?_ _) | (with_reducible refine Kd.C_drew ?_))); (case side4 => exact (Kd.R_reads' HO209.out).2.1); rintro e w' ⟨rfl, ⟨nd, rfl⟩⟩))
                   go_ret
                   exact ⟨by first | rfl | (simp [errW_none, errW_some] <;> rfl) | (simp [*, errW_none, errW_some] <;> rfl), by repeat (first | (with_reducible first | exact HB.out | apply below_alloc | apply pw_below_drewN | apply below_drew1 | refine below_set ?_ GE199.out) | exact HB.out)⟩
                 ·rw [if_neg c31] at H
                  have c31b0 : (t206 == 0) = false := beq_eq_false_iff_ne.mpr c31
                  have c31b1 : (t206 != 0) = true := bne_iff_ne.mpr c31
                  obtain rfl := Option.some.inj H
                  have hcz57_0 : wc.cell? ⟨gb199, 0, none⟩ = some (.int .i64 ((rd_T32 t191 x32_1).f0)) := (blk_cell BK199.out 0).trans rfl
                  have hcz57_1 : wc.cell? ⟨gb199, 1, none⟩ = some (.string ((rd_T32 t191 x32_1).f1)) := (blk_cell BK199.out 1).trans rfl
                  have hcz57_2 : wc.cell? ⟨gb199, 2, none⟩ = some (.int .i64 ((rd_T32 t191 x32_1).f2)) := (blk_cell BK199.out 2).trans rfl
                  have hcz57_3 : wc.cell? ⟨gb199, 3, none⟩ = some (.int .i64 ((rd_T32 t191 x32_1).f3)) := (blk_cell BK199.out 3).trans rfl
                  have hfz57_0 := blk_frozen BK199.out 0
                  have hfz57_1 := blk_frozen BK199.out 1
                  have hfz57_2 := blk_frozen BK199.out 2
                  have hfz57_3 := blk_frozen BK199.out 3
                  go_wp2_with (first | ((with_reducible refine gate_callee (f := 18) rfl ?_); refine goesL_ (some 71) rfl rfl Tryz.func18 (by kernel_rfl) rfl #[.string (a0.extract (((rd_T32 t191 x32_1).f3) : Int).toNat (x8_12 : Int).toNat)] rfl (by (try simp only [List.map_toArray, List.map_cons, List.map_nil]); first | done | rfl | (simp only [List.length_drop, List.length_take]; rfl)) ?_; (with_reducible refine (lex_Lex.calls kj18 (a0.extract (((rd_T32 t191 x32_1).f3) : Int).toNat (x8_12 : Int).toNat) t201 t202 t203 _ ?side1 A29.out).mono ?_); (case side1 => exact EnvOk.below HE.out (by repeat (first | (with_reducible first | exact HB.out | apply below_alloc | apply pw_below_drewN | apply below_drew1 | refine below_set ?_ GE199.out) | exact HB.out))); rintro e w58 ⟨v204, rfl, ho0, hb⟩; refine ⟨_, rfl, ?_⟩; have n0_ := Aside0.mk (Kd.R_elder' (by (with_reducible repeat (first | apply Kd.R_alloc | apply Kd.R_drewN | apply Kd.R_drew)); exact HO_3.out) (Kd.R_base ho0) hb); have n1_ := Aside0.mk (Kd.R_elder' (by (with_reducible repeat (first | apply Kd.R_alloc | apply Kd.R_drewN | apply Kd.R_drew)); exact HO_30.out) (Kd.R_base ho0) hb); have n2_ := Aside0.mk (Kd.R_lower (Kd.R_newB (Kd.R_new' (Kd.R_new' ho0 (Kd.R_lt (by (with_reducible repeat (first | apply Kd.R_alloc | apply Kd.R_drewN | apply Kd.R_drew)); exact HO_3.out))) (Kd.R_lt (by (with_reducible repeat (first | apply Kd.R_alloc | apply Kd.R_drewN | apply Kd.R_drew)); exact HO_30.out))) (g := gb199) (o := .cells #[.int .i64 ((rd_T32 t191 x32_1).f0), .string ((rd_T32 t191 x32_1).f1), .int .i64 ((rd_T32 t191 x32_1).f2), .int .i64 ((rd_T32 t191 x32_1).f3)] 32 (0, 0)) (by (with_reducible repeat (first | refine blk_drewN ?_ _ | refine blk_drew ?_ | refine blk_alloc ?_ _)); exact BK199.out)) (below_size (by repeat (first | (with_reducible first | exact HB.out | apply below_alloc | apply pw_below_drewN | apply below_drew1 | refine below_set ?_ GE199.out) | exact HB.out)))); have n3_ := Aside0.mk (blk_below (g := gb199) (o := .cells #[.int .i64 ((rd_T32 t191 x32_1).f0), .string ((rd_T32 t191 x32_1).f1), .int .i64 ((rd_T32 t191 x32_1).f2), .int .i64 ((rd_T32 t191 x32_1).f3)] 32 (0, 0)) (by (with_reducible repeat (first | refine blk_drewN ?_ _ | refine blk_drew ?_ | refine blk_alloc ?_ _)); exact BK199.out) hb); have n4_ := Aside0.mk (below_step (by repeat (first | (with_reducible first | exact HB.out | apply below_alloc | apply pw_below_drewN | apply below_drew1 | refine below_set ?_ GE199.out) | exact HB.out)) hb); clear HO_3; clear HO_30; clear BK199; clear HB; have HO_3 := n0_; have HO_30 := n1_; have HO205 := n2_; have BK199 := n3_; have HB := n4_; clear n0_ n1_ n2_ n3_ n4_; (try clear hb); (try clear hb2); (try clear hk); (try clear hi); (try clear ho0)) | ((with_reducible refine gate_callee (f := 14) rfl ?_); refine goesL_ (some 76) rfl rfl Tryz.func14 (by kernel_rfl) rfl #[.int .i64 t203] rfl (by (try simp only [List.map_toArray, List.map_cons, List.map_nil]); first | done | rfl | (simp only [List.length_drop, List.length_take]; rfl)) ?_; (with_reducible refine (touchstonelaw01_No.calls t203 t206 _ A30.out).mono ?_); rintro e w' ⟨rfl, ⟨nd, rfl⟩⟩; refine ⟨_, rfl, ?_⟩))
                  go_ret
                  exact ⟨by first | rfl | (simp [errW_none, errW_some] <;> rfl) | (simp [*, errW_none, errW_some] <;> rfl), by repeat (first | (with_reducible first | exact HB.out | apply below_alloc | apply pw_below_drewN | apply below_drew1 | refine below_set ?_ GE199.out) | exact HB.out)⟩
                ·rw [if_neg c28] at H
                 exact absurd H (by simp)
               ·rw [if_neg c27] at H
                exact absurd H (by simp)
              ·rw [if_neg c26] at H
               exact absurd H (by simp)
        ·rw [if_neg c12] at H
         exact absurd H (by simp)
       ·rw [if_neg c11] at H
        exact absurd H (by simp)
      ·rw [if_neg c10] at H
       have c10b0 : decide (x32_1 < (t191.length : Int)) = false := decide_eq_false c10
       clear c10
       by_cases c59 : (t191.length : Int) > 0
       ·rw [if_pos c59] at H
        have c59b0 : decide (0 < (t191.length : Int)) = true := decide_eq_true c59
        have c59b1 : decide (0 < t191.length) = true := decide_eq_true (by omega)
        clear c59
        by_cases c60 : 0 < (t191.length : Int)
        ·rw [if_pos c60] at H
         have c60b0 : decide (0 < (t191.length : Int)) = true := decide_eq_true c60
         have c60b1 : decide (0 < t191.length) = true := decide_eq_true (by omega)
         clear c60
         by_cases c61 : 0 ≤ ((rd_T32 t191 0).f3)
         ·rw [if_pos c61] at H
          have c61b0 := eq_true c61
          have c61b1 : decide (0 ≤ ((rd_T32 t191 0).f3)) = true := decide_eq_true c61
          clear c61
          by_cases c62 : ((rd_T32 t191 0).f3) ≤ (a0.size : Int)
          ·rw [if_pos c62] at H
           have c62b0 := eq_true c62
           have c62b1 : decide (((rd_T32 t191 0).f3) ≤ (a0.size : Int)) = true := decide_eq_true c62
           clear c62
           replace H := Option.bind_eq_some_iff.mp H
           obtain ⟨⟨t213, t214, t215⟩, A630, H⟩ := H
           replace H : ((touchstonelaw01_No.f t215).bind fun t218 => (if t218 = 0 then (if (t213.length : Int) = 0 then ((touchstonelaw06_alive.f k1).bind fun t219 => (some t219)) else (some false)) else (some false))) = some r := H
           have A63 := Aside0.mk A630
           clear A630
           replace H := Option.bind_eq_some_iff.mp H
           obtain ⟨t218, A640, H⟩ := H
           replace H : (if t218 = 0 then (if (t213.length : Int) = 0 then ((touchstonelaw06_alive.f k1).bind fun t219 => (some t219)) else (some false)) else (some false)) = some r := H
           have A64 := Aside0.mk A640
           clear A640
           by_cases c65 : t218 = 0
           ·rw [if_pos c65] at H
            have c65b0 : (t218 == 0) = true := beq_iff_eq.mpr c65
            have c65b1 : (t218 != 0) = false := bne_eq_false_iff_eq.mpr c65
            clear c65
            by_cases c66 : (t213.length : Int) = 0
            ·rw [if_pos c66] at H
             have c66b0 : ((t213.length : Int) == 0) = true := beq_iff_eq.mpr c66
             have c66b1 : ((t213.length : Int) != 0) = false := bne_eq_false_iff_eq.mpr c66
             clear c66
             replace H := Option.bind_eq_some_iff.mp H
             obtain ⟨t219, A670, H⟩ := H
             replace H : (some t219) = some r := H
             have A67 := Aside0.mk A670
             clear A670
             obtain rfl := Option.some.inj H
             have p212 : 0 ≤ (0 : Int) := (by omega)
             have q212 : 0 < (t191.length : Int) := of_decide_eq_true (by first | (with_reducible assumption) | assumption)
             obtain ⟨ad212, e212, hx212_0, hx212_1, hx212_2, hx212_3⟩ := at_T32 (Kd.R_reads' HO_3.out).2.2 0 p212 q212
             cases e212
             have qi212 : (0 < t191.length) = True := eq_true (by omega)
             (try rw [show ((0 : Int)).toNat = 0 from rfl] at hx212_0)
             (try rw [show 0 * 4 = 0 from rfl] at hx212_0)
             (try rw [Addr.add_zero'] at hx212_0)
             (try rw [show ((0 : Int)).toNat = 0 from rfl] at hx212_1)
             (try rw [show 0 * 4 = 0 from rfl] at hx212_1)
             (try rw [Addr.add_zero'] at hx212_1)
             (try rw [show ((0 : Int)).toNat = 0 from rfl] at hx212_2)
             (try rw [show 0 * 4 = 0 from rfl] at hx212_2)
             (try rw [Addr.add_zero'] at hx212_2)
             (try rw [show ((0 : Int)).toNat = 0 from rfl] at hx212_3)
             (try rw [show 0 * 4 = 0 from rfl] at hx212_3)
             (try rw [Addr.add_zero'] at hx212_3)
             replace p212 := eq_true p212
             replace q212 := eq_true q212
             go_wp2_with (first | ((with_reducible refine gate_callee (f := 18) rfl ?_); refine goesL_ (some 106) rfl rfl Tryz.func18 (by kernel_rfl) rfl #[.string (a0.extract 0 (((rd_T32 t191 0).f3) : Int).toNat)] rfl (by (try simp only [List.map_toArray, List.map_cons, List.map_nil]); first | done | rfl | (simp only [List.length_drop, List.length_take]; rfl)) ?_; (with_reducible refine (lex_Lex.calls k1 (a0.extract 0 (((rd_T32 t191 0).f3) : Int).toNat) t213 t214 t215 _ ?side1 A63.out).mono ?_); (case side1 => exact EnvOk.below HE.out (by repeat (first | (with_reducible first | exact HB.out | apply below_alloc | apply pw_below_drewN | apply below_drew1) | exact HB.out))); rintro e w68 ⟨v216, rfl, ho0, hb⟩; refine ⟨_, rfl, ?_⟩; have n0_ := Aside0.mk (Kd.R_elder' (by (with_reducible repeat (first | apply Kd.R_alloc | apply Kd.R_drewN | apply Kd.R_drew)); exact HO_3.out) (Kd.R_base ho0) hb); have n1_ := Aside0.mk (Kd.R_elder' (by (with_reducible repeat (first | apply Kd.R_alloc | apply Kd.R_drewN | apply Kd.R_drew)); exact HO_30.out) (Kd.R_base ho0) hb); have n2_ := Aside0.mk (Kd.R_lower (Kd.R_new' (Kd.R_new' ho0 (Kd.R_lt (by (with_reducible repeat (first | apply Kd.R_alloc | apply Kd.R_drewN | apply Kd.R_drew)); exact HO_3.out))) (Kd.R_lt (by (with_reducible repeat (first | apply Kd.R_alloc | apply Kd.R_drewN | apply Kd.R_drew)); exact HO_30.out))) (below_size (by repeat (first | (with_reducible first | exact HB.out | apply below_alloc | apply pw_below_drewN | apply below_drew1) | exact HB.out)))); have n3_ := Aside0.mk (below_step (by repeat (first | (with_reducible first | exact HB.out | apply below_alloc | apply pw_below_drewN | apply below_drew1) | exact HB.out)) hb); clear HO_3; clear HO_30; clear HB; have HO_3 := n0_; have HO_30 := n1_; have HO217 := n2_; have HB := n3_; clear n0_ n1_ n2_ n3_; (try clear hb); (try clear hb2); (try clear hk); (try clear hi); (try clear ho0)) | ((with_reducible refine gate_callee (f := 14) rfl ?_); refine goesL_ (some 111) rfl rfl Tryz.func14 (by kernel_rfl) rfl #[.int .i64 t215] rfl (by (try simp only [List.map_toArray, List.map_cons, List.map_nil]); first | done | rfl | (simp only [List.length_drop, List.length_take]; rfl)) ?_; (with_reducible refine (touchstonelaw01_No.calls t215 t218 _ A64.out).mono ?_); rintro e w' ⟨rfl, ⟨nd, rfl⟩⟩; refine ⟨_, rfl, ?_⟩; obtain ⟨Ao69, co69, eo69⟩ := Kd.R_slice HO217.out; subst eo69) | (go_at_call 9; (with_reducible refine (touchstonelaw06_alive.calls k1  t219 _ ?side1 A67.out).mono ?_); (case side1 => exact EnvOk.below HE.out (by repeat (first | (with_reducible first | exact HB.out | apply below_alloc | apply pw_below_drewN | apply below_drew1) | exact HB.out))); rintro e w70 ⟨rfl, hb⟩; have n0_ := Aside0.mk (Kd.R_below (by (with_reducible repeat (first | apply Kd.R_alloc | apply Kd.R_drewN | apply Kd.R_drew)); exact HO_3.out) hb); have n1_ := Aside0.mk (Kd.R_below (by (with_reducible repeat (first | apply Kd.R_alloc | apply Kd.R_drewN | apply Kd.R_drew)); exact HO_30.out) hb); have n2_ := Aside0.mk (Kd.R_below (by (with_reducible repeat (first | apply Kd.R_alloc | apply Kd.R_drewN | apply Kd.R_drew)); exact HO217.out) hb); have n3_ := Aside0.mk (below_step (by repeat (first | (with_reducible first | exact HB.out | apply below_alloc | apply pw_below_drewN | apply below_drew1) | exact HB.out)) hb); clear HO_3; clear HO_30; clear HO217; clear HB; have HO_3 := n0_; have HO_30 := n1_; have HO217 := n2_; have HB := n3_; clear n0_ n1_ n2_ n3_; (try clear hb); (try clear hb2); (try clear hk); (try clear hi)))
             go_ret
             exact ⟨by first | rfl | (simp [errW_none, errW_some] <;> rfl) | (simp [*, errW_none, errW_some] <;> rfl), by repeat (first | (with_reducible first | exact HB.out | apply below_alloc | apply pw_below_drewN | apply below_drew1) | exact HB.out)⟩
            ·rw [if_neg c66] at H
             have c66b0 : ((t213.length : Int) == 0) = false := beq_eq_false_iff_ne.mpr c66
             have c66b1 : ((t213.length : Int) != 0) = true := bne_iff_ne.mpr c66
             have c66b2 : ¬ (t213 = []) := fun h_ => c66 (by rw [h_]; rfl)
             obtain rfl := Option.some.inj H
             have p212 : 0 ≤ (0 : Int) := (by omega)
             have q212 : 0 < (t191.length : Int) := of_decide_eq_true (by first | (with_reducible assumption) | assumption)
             obtain ⟨ad212, e212, hx212_0, hx212_1, hx212_2, hx212_3⟩ := at_T32 (Kd.R_reads' HO_3.out).2.2 0 p212 q212
             cases e212
             have qi212 : (0 < t191.length) = True := eq_true (by omega)
             (try rw [show ((0 : Int)).toNat = 0 from rfl] at hx212_0)
             (try rw [show 0 * 4 = 0 from rfl] at hx212_0)
             (try rw [Addr.add_zero'] at hx212_0)
             (try rw [show ((0 : Int)).toNat = 0 from rfl] at hx212_1)
             (try rw [show 0 * 4 = 0 from rfl] at hx212_1)
             (try rw [Addr.add_zero'] at hx212_1)
             (try rw [show ((0 : Int)).toNat = 0 from rfl] at hx212_2)
             (try rw [show 0 * 4 = 0 from rfl] at hx212_2)
             (try rw [Addr.add_zero'] at hx212_2)
             (try rw [show ((0 : Int)).toNat = 0 from rfl] at hx212_3)
             (try rw [show 0 * 4 = 0 from rfl] at hx212_3)
             (try rw [Addr.add_zero'] at hx212_3)
             replace p212 := eq_true p212
             replace q212 := eq_true q212
             go_wp2_with (first | ((with_reducible refine gate_callee (f := 18) rfl ?_); refine goesL_ (some 106) rfl rfl Tryz.func18 (by kernel_rfl) rfl #[.string (a0.extract 0 (((rd_T32 t191 0).f3) : Int).toNat)] rfl (by (try simp only [List.map_toArray, List.map_cons, List.map_nil]); first | done | rfl | (simp only [List.length_drop, List.length_take]; rfl)) ?_; (with_reducible refine (lex_Lex.calls k1 (a0.extract 0 (((rd_T32 t191 0).f3) : Int).toNat) t213 t214 t215 _ ?side1 A63.out).mono ?_); (case side1 => exact EnvOk.below HE.out (by repeat (first | (with_reducible first | exact HB.out | apply below_alloc | apply pw_below_drewN | apply below_drew1) | exact HB.out))); rintro e w71 ⟨v216, rfl, ho0, hb⟩; refine ⟨_, rfl, ?_⟩; have n0_ := Aside0.mk (Kd.R_elder' (by (with_reducible repeat (first | apply Kd.R_alloc | apply Kd.R_drewN | apply Kd.R_drew)); exact HO_3.out) (Kd.R_base ho0) hb); have n1_ := Aside0.mk (Kd.R_elder' (by (with_reducible repeat (first | apply Kd.R_alloc | apply Kd.R_drewN | apply Kd.R_drew)); exact HO_30.out) (Kd.R_base ho0) hb); have n2_ := Aside0.mk (Kd.R_lower (Kd.R_new' (Kd.R_new' ho0 (Kd.R_lt (by (with_reducible repeat (first | apply Kd.R_alloc | apply Kd.R_drewN | apply Kd.R_drew)); exact HO_3.out))) (Kd.R_lt (by (with_reducible repeat (first | apply Kd.R_alloc | apply Kd.R_drewN | apply Kd.R_drew)); exact HO_30.out))) (below_size (by repeat (first | (with_reducible first | exact HB.out | apply below_alloc | apply pw_below_drewN | apply below_drew1) | exact HB.out)))); have n3_ := Aside0.mk (below_step (by repeat (first | (with_reducible first | exact HB.out | apply below_alloc | apply pw_below_drewN | apply below_drew1) | exact HB.out)) hb); clear HO_3; clear HO_30; clear HB; have HO_3 := n0_; have HO_30 := n1_; have HO217 := n2_; have HB := n3_; clear n0_ n1_ n2_ n3_; (try clear hb); (try clear hb2); (try clear hk); (try clear hi); (try clear ho0)) | ((with_reducible refine gate_callee (f := 14) rfl ?_); refine goesL_ (some 111) rfl rfl Tryz.func14 (by kernel_rfl) rfl #[.int .i64 t215] rfl (by (try simp only [List.map_toArray, List.map_cons, List.map_nil]); first | done | rfl | (simp only [List.length_drop, List.length_take]; rfl)) ?_; (with_reducible refine (touchstonelaw01_No.calls t215 t218 _ A64.out).mono ?_); rintro e w' ⟨rfl, ⟨nd, rfl⟩⟩; refine ⟨_, rfl, ?_⟩; obtain ⟨Ao72, co72, eo72⟩ := Kd.R_slice HO217.out; subst eo72))
             go_ret
             exact ⟨by first | rfl | (simp [errW_none, errW_some] <;> rfl) | (simp [*, errW_none, errW_some] <;> rfl), by repeat (first | (with_reducible first | exact HB.out | apply below_alloc | apply pw_below_drewN | apply below_drew1) | exact HB.out)⟩
           ·rw [if_neg c65] at H
            have c65b0 : (t218 == 0) = false := beq_eq_false_iff_ne.mpr c65
            have c65b1 : (t218 != 0) = true := bne_iff_ne.mpr c65
            obtain rfl := Option.some.inj H
            have p212 : 0 ≤ (0 : Int) := (by omega)
            have q212 : 0 < (t191.length : Int) := of_decide_eq_true (by first | (with_reducible assumption) | assumption)
            obtain ⟨ad212, e212, hx212_0, hx212_1, hx212_2, hx212_3⟩ := at_T32 (Kd.R_reads' HO_3.out).2.2 0 p212 q212
            cases e212
            have qi212 : (0 < t191.length) = True := eq_true (by omega)
            (try rw [show ((0 : Int)).toNat = 0 from rfl] at hx212_0)
            (try rw [show 0 * 4 = 0 from rfl] at hx212_0)
            (try rw [Addr.add_zero'] at hx212_0)
            (try rw [show ((0 : Int)).toNat = 0 from rfl] at hx212_1)
            (try rw [show 0 * 4 = 0 from rfl] at hx212_1)
            (try rw [Addr.add_zero'] at hx212_1)
            (try rw [show ((0 : Int)).toNat = 0 from rfl] at hx212_2)
            (try rw [show 0 * 4 = 0 from rfl] at hx212_2)
            (try rw [Addr.add_zero'] at hx212_2)
            (try rw [show ((0 : Int)).toNat = 0 from rfl] at hx212_3)
            (try rw [show 0 * 4 = 0 from rfl] at hx212_3)
            (try rw [Addr.add_zero'] at hx212_3)
            replace p212 := eq_true p212
            replace q212 := eq_true q212
            go_wp2_with (first | ((with_reducible refine gate_callee (f := 18) rfl ?_); refine goesL_ (some 106) rfl rfl Tryz.func18 (by kernel_rfl) rfl #[.string (a0.extract 0 (((rd_T32 t191 0).f3) : Int).toNat)] rfl (by (try simp only [List.map_toArray, List.map_cons, List.map_nil]); first | done | rfl | (simp only [List.length_drop, List.length_take]; rfl)) ?_; (with_reducible refine (lex_Lex.calls k1 (a0.extract 0 (((rd_T32 t191 0).f3) : Int).toNat) t213 t214 t215 _ ?side1 A63.out).mono ?_); (case side1 => exact EnvOk.below HE.out (by repeat (first | (with_reducible first | exact HB.out | apply below_alloc | apply pw_below_drewN | apply below_drew1) | exact HB.out))); rintro e w73 ⟨v216, rfl, ho0, hb⟩; refine ⟨_, rfl, ?_⟩; have n0_ := Aside0.mk (Kd.R_elder' (by (with_reducible repeat (first | apply Kd.R_alloc | apply Kd.R_drewN | apply Kd.R_drew)); exact HO_3.out) (Kd.R_base ho0) hb); have n1_ := Aside0.mk (Kd.R_elder' (by (with_reducible repeat (first | apply Kd.R_alloc | apply Kd.R_drewN | apply Kd.R_drew)); exact HO_30.out) (Kd.R_base ho0) hb); have n2_ := Aside0.mk (Kd.R_lower (Kd.R_new' (Kd.R_new' ho0 (Kd.R_lt (by (with_reducible repeat (first | apply Kd.R_alloc | apply Kd.R_drewN | apply Kd.R_drew)); exact HO_3.out))) (Kd.R_lt (by (with_reducible repeat (first | apply Kd.R_alloc | apply Kd.R_drewN | apply Kd.R_drew)); exact HO_30.out))) (below_size (by repeat (first | (with_reducible first | exact HB.out | apply below_alloc | apply pw_below_drewN | apply below_drew1) | exact HB.out)))); have n3_ := Aside0.mk (below_step (by repeat (first | (with_reducible first | exact HB.out | apply below_alloc | apply pw_below_drewN | apply below_drew1) | exact HB.out)) hb); clear HO_3; clear HO_30; clear HB; have HO_3 := n0_; have HO_30 := n1_; have HO217 := n2_; have HB := n3_; clear n0_ n1_ n2_ n3_; (try clear hb); (try clear hb2); (try clear hk); (try clear hi); (try clear ho0)) | ((with_reducible refine gate_callee (f := 14) rfl ?_); refine goesL_ (some 111) rfl rfl Tryz.func14 (by kernel_rfl) rfl #[.int .i64 t215] rfl (by (try simp only [List.map_toArray, List.map_cons, List.map_nil]); first | done | rfl | (simp only [List.length_drop, List.length_take]; rfl)) ?_; (with_reducible refine (touchstonelaw01_No.calls t215 t218 _ A64.out).mono ?_); rintro e w' ⟨rfl, ⟨nd, rfl⟩⟩; refine ⟨_, rfl, ?_⟩))
            go_ret
            exact ⟨by first | rfl | (simp [errW_none, errW_some] <;> rfl) | (simp [*, errW_none, errW_some] <;> rfl), by repeat (first | (with_reducible first | exact HB.out | apply below_alloc | apply pw_below_drewN | apply below_drew1) | exact HB.out)⟩
          ·rw [if_neg c62] at H
           exact absurd H (by simp)
         ·rw [if_neg c61] at H
          exact absurd H (by simp)
        ·rw [if_neg c60] at H
         exact absurd H (by simp)
       ·rw [if_neg c59] at H
        have c59b0 : decide (0 < (t191.length : Int)) = false := decide_eq_false c59
        have c59b1 : decide (0 < t191.length) = false := decide_eq_false (by omega)
        clear c59
        by_cases c74 : 0 ≤ (a0.size : Int)
        ·rw [if_pos c74] at H
         have c74b0 := eq_true c74
         have c74b1 : decide (0 ≤ (a0.size : Int)) = true := decide_eq_true c74
         clear c74
         by_cases c75 : (a0.size : Int) ≤ (a0.size : Int)
         ·rw [if_pos c75] at H
          have c75b0 := eq_true c75
          have c75b1 : decide ((a0.size : Int) ≤ (a0.size : Int)) = true := decide_eq_true c75
          clear c75
          replace H := Option.bind_eq_some_iff.mp H
          obtain ⟨⟨t220, t221, t222⟩, A760, H⟩ := H
          replace H : ((touchstonelaw01_No.f t222).bind fun t225 => (if t225 = 0 then (if (t220.length : Int) = 0 then ((touchstonelaw06_alive.f k1).bind fun t226 => (some t226)) else (some false)) else (some false))) = some r := H
          have A76 := Aside0.mk A760
          clear A760
          replace H := Option.bind_eq_some_iff.mp H
          obtain ⟨t225, A770, H⟩ := H
          replace H : (if t225 = 0 then (if (t220.length : Int) = 0 then ((touchstonelaw06_alive.f k1).bind fun t226 => (some t226)) else (some false)) else (some false)) = some r := H
          have A77 := Aside0.mk A770
          clear A770
          by_cases c78 : t225 = 0
          ·rw [if_pos c78] at H
           have c78b0 : (t225 == 0) = true := beq_iff_eq.mpr c78
           have c78b1 : (t225 != 0) = false := bne_eq_false_iff_eq.mpr c78
           clear c78
           by_cases c79 : (t220.length : Int) = 0
           ·rw [if_pos c79] at H
            have c79b0 : ((t220.length : Int) == 0) = true := beq_iff_eq.mpr c79
            have c79b1 : ((t220.length : Int) != 0) = false := bne_eq_false_iff_eq.mpr c79
            clear c79
            replace H := Option.bind_eq_some_iff.mp H
            obtain ⟨t226, A800, H⟩ := H
            replace H : (some t226) = some r := H
            have A80 := Aside0.mk A800
            clear A800
            obtain rfl := Option.some.inj H
            go_wp2_with (first | ((with_reducible refine gate_callee (f := 18) rfl ?_); refine goesL_ (some 106) rfl rfl Tryz.func18 (by kernel_rfl) rfl #[.string a0] rfl (by (try simp only [List.map_toArray, List.map_cons, List.map_nil]); first | done | rfl | (simp only [List.length_drop, List.length_take]; rfl)) ?_; (with_reducible refine (lex_Lex.calls k1 a0 t220 t221 t222 _ ?side1 (by have h_ := A76.out; rwa [show (a0.extract 0 ((a0.size : Int) : Int).toNat) = a0 by simp] at h_)).mono ?_); (case side1 => exact EnvOk.below HE.out (by repeat (first | (with_reducible first | exact HB.out | apply below_alloc | apply pw_below_drewN | apply below_drew1) | exact HB.out))); rintro e w81 ⟨v223, rfl, ho0, hb⟩; refine ⟨_, rfl, ?_⟩; have n0_ := Aside0.mk (Kd.R_elder' (by (with_reducible repeat (first | apply Kd.R_alloc | apply Kd.R_drewN | apply Kd.R_drew)); exact HO_3.out) (Kd.R_base ho0) hb); have n1_ := Aside0.mk (Kd.R_elder' (by (with_reducible repeat (first | apply Kd.R_alloc | apply Kd.R_drewN | apply Kd.R_drew)); exact HO_30.out) (Kd.R_base ho0) hb); have n2_ := Aside0.mk (Kd.R_lower (Kd.R_new' (Kd.R_new' ho0 (Kd.R_lt (by (with_reducible repeat (first | apply Kd.R_alloc | apply Kd.R_drewN | apply Kd.R_drew)); exact HO_3.out))) (Kd.R_lt (by (with_reducible repeat (first | apply Kd.R_alloc | apply Kd.R_drewN | apply Kd.R_drew)); exact HO_30.out))) (below_size (by repeat (first | (with_reducible first | exact HB.out | apply below_alloc | apply pw_below_drewN | apply below_drew1) | exact HB.out)))); have n3_ := Aside0.mk (below_step (by repeat (first | (with_reducible first | exact HB.out | apply below_alloc | apply pw_below_drewN | apply below_drew1) | exact HB.out)) hb); clear HO_3; clear HO_30; clear HB; have HO_3 := n0_; have HO_30 := n1_; have HO224 := n2_; have HB := n3_; clear n0_ n1_ n2_ n3_; (try clear hb); (try clear hb2); (try clear hk); (try clear hi); (try clear ho0)) | ((with_reducible refine gate_callee (f := 14) rfl ?_); refine goesL_ (some 111) rfl rfl Tryz.func14 (by kernel_rfl) rfl #[.int .i64 t222] rfl (by (try simp only [List.map_toArray, List.map_cons, List.map_nil]); first | done | rfl | (simp only [List.length_drop, List.length_take]; rfl)) ?_; (with_reducible refine (touchstonelaw01_No.calls t222 t225 _ A77.out).mono ?_); rintro e w' ⟨rfl, ⟨nd, rfl⟩⟩; refine ⟨_, rfl, ?_⟩; obtain ⟨Ao82, co82, eo82⟩ := Kd.R_slice HO224.out; subst eo82) | (go_at_call 9; (with_reducible refine (touchstonelaw06_alive.calls k1  t226 _ ?side1 A80.out).mono ?_); (case side1 => exact EnvOk.below HE.out (by repeat (first | (with_reducible first | exact HB.out | apply below_alloc | apply pw_below_drewN | apply below_drew1) | exact HB.out))); rintro e w83 ⟨rfl, hb⟩; have n0_ := Aside0.mk (Kd.R_below (by (with_reducible repeat (first | apply Kd.R_alloc | apply Kd.R_drewN | apply Kd.R_drew)); exact HO_3.out) hb); have n1_ := Aside0.mk (Kd.R_below (by (with_reducible repeat (first | apply Kd.R_alloc | apply Kd.R_drewN | apply Kd.R_drew)); exact HO_30.out) hb); have n2_ := Aside0.mk (Kd.R_below (by (with_reducible repeat (first | apply Kd.R_alloc | apply Kd.R_drewN | apply Kd.R_drew)); exact HO224.out) hb); have n3_ := Aside0.mk (below_step (by repeat (first | (with_reducible first | exact HB.out | apply below_alloc | apply pw_below_drewN | apply below_drew1) | exact HB.out)) hb); clear HO_3; clear HO_30; clear HO224; clear HB; have HO_3 := n0_; have HO_30 := n1_; have HO224 := n2_; have HB := n3_; clear n0_ n1_ n2_ n3_; (try clear hb); (try clear hb2); (try clear hk); (try clear hi)))
            go_ret
            exact ⟨by first | rfl | (simp [errW_none, errW_some] <;> rfl) | (simp [*, errW_none, errW_some] <;> rfl), by repeat (first | (with_reducible first | exact HB.out | apply below_alloc | apply pw_below_drewN | apply below_drew1) | exact HB.out)⟩
           ·rw [if_neg c79] at H
            have c79b0 : ((t220.length : Int) == 0) = false := beq_eq_false_iff_ne.mpr c79
            have c79b1 : ((t220.length : Int) != 0) = true := bne_iff_ne.mpr c79
            have c79b2 : ¬ (t220 = []) := fun h_ => c79 (by rw [h_]; rfl)
            obtain rfl := Option.some.inj H
            go_wp2_with (first | ((with_reducible refine gate_callee (f := 18) rfl ?_); refine goesL_ (some 106) rfl rfl Tryz.func18 (by kernel_rfl) rfl #[.string a0] rfl (by (try simp only [List.map_toArray, List.map_cons, List.map_nil]); first | done | rfl | (simp only [List.length_drop, List.length_take]; rfl)) ?_; (with_reducible refine (lex_Lex.calls k1 a0 t220 t221 t222 _ ?side1 (by have h_ := A76.out; rwa [show (a0.extract 0 ((a0.size : Int) : Int).toNat) = a0 by simp] at h_)).mono ?_); (case side1 => exact EnvOk.below HE.out (by repeat (first | (with_reducible first | exact HB.out | apply below_alloc | apply pw_below_drewN | apply below_drew1) | exact HB.out))); rintro e w84 ⟨v223, rfl, ho0, hb⟩; refine ⟨_, rfl, ?_⟩; have n0_ := Aside0.mk (Kd.R_elder' (by (with_reducible repeat (first | apply Kd.R_alloc | apply Kd.R_drewN | apply Kd.R_drew)); exact HO_3.out) (Kd.R_base ho0) hb); have n1_ := Aside0.mk (Kd.R_elder' (by (with_reducible repeat (first | apply Kd.R_alloc | apply Kd.R_drewN | apply Kd.R_drew)); exact HO_30.out) (Kd.R_base ho0) hb); have n2_ := Aside0.mk (Kd.R_lower (Kd.R_new' (Kd.R_new' ho0 (Kd.R_lt (by (with_reducible repeat (first | apply Kd.R_alloc | apply Kd.R_drewN | apply Kd.R_drew)); exact HO_3.out))) (Kd.R_lt (by (with_reducible repeat (first | apply Kd.R_alloc | apply Kd.R_drewN | apply Kd.R_drew)); exact HO_30.out))) (below_size (by repeat (first | (with_reducible first | exact HB.out | apply below_alloc | apply pw_below_drewN | apply below_drew1) | exact HB.out)))); have n3_ := Aside0.mk (below_step (by repeat (first | (with_reducible first | exact HB.out | apply below_alloc | apply pw_below_drewN | apply below_drew1) | exact HB.out)) hb); clear HO_3; clear HO_30; clear HB; have HO_3 := n0_; have HO_30 := n1_; have HO224 := n2_; have HB := n3_; clear n0_ n1_ n2_ n3_; (try clear hb); (try clear hb2); (try clear hk); (try clear hi); (try clear ho0)) | ((with_reducible refine gate_callee (f := 14) rfl ?_); refine goesL_ (some 111) rfl rfl Tryz.func14 (by kernel_rfl) rfl #[.int .i64 t222] rfl (by (try simp only [List.map_toArray, List.map_cons, List.map_nil]); first | done | rfl | (simp only [List.length_drop, List.length_take]; rfl)) ?_; (with_reducible refine (touchstonelaw01_No.calls t222 t225 _ A77.out).mono ?_); rintro e w' ⟨rfl, ⟨nd, rfl⟩⟩; refine ⟨_, rfl, ?_⟩; obtain ⟨Ao85, co85, eo85⟩ := Kd.R_slice HO224.out; subst eo85))
            go_ret
            exact ⟨by first | rfl | (simp [errW_none, errW_some] <;> rfl) | (simp [*, errW_none, errW_some] <;> rfl), by repeat (first | (with_reducible first | exact HB.out | apply below_alloc | apply pw_below_drewN | apply below_drew1) | exact HB.out)⟩
          ·rw [if_neg c78] at H
           have c78b0 : (t225 == 0) = false := beq_eq_false_iff_ne.mpr c78
           have c78b1 : (t225 != 0) = true := bne_iff_ne.mpr c78
           obtain rfl := Option.some.inj H
           go_wp2_with (first | ((with_reducible refine gate_callee (f := 18) rfl ?_); refine goesL_ (some 106) rfl rfl Tryz.func18 (by kernel_rfl) rfl #[.string a0] rfl (by (try simp only [List.map_toArray, List.map_cons, List.map_nil]); first | done | rfl | (simp only [List.length_drop, List.length_take]; rfl)) ?_; (with_reducible refine (lex_Lex.calls k1 a0 t220 t221 t222 _ ?side1 (by have h_ := A76.out; rwa [show (a0.extract 0 ((a0.size : Int) : Int).toNat) = a0 by simp] at h_)).mono ?_); (case side1 => exact EnvOk.below HE.out (by repeat (first | (with_reducible first | exact HB.out | apply below_alloc | apply pw_below_drewN | apply below_drew1) | exact HB.out))); rintro e w86 ⟨v223, rfl, ho0, hb⟩; refine ⟨_, rfl, ?_⟩; have n0_ := Aside0.mk (Kd.R_elder' (by (with_reducible repeat (first | apply Kd.R_alloc | apply Kd.R_drewN | apply Kd.R_drew)); exact HO_3.out) (Kd.R_base ho0) hb); have n1_ := Aside0.mk (Kd.R_elder' (by (with_reducible repeat (first | apply Kd.R_alloc | apply Kd.R_drewN | apply Kd.R_drew)); exact HO_30.out) (Kd.R_base ho0) hb); have n2_ := Aside0.mk (Kd.R_lower (Kd.R_new' (Kd.R_new' ho0 (Kd.R_lt (by (with_reducible repeat (first | apply Kd.R_alloc | apply Kd.R_drewN | apply Kd.R_drew)); exact HO_3.out))) (Kd.R_lt (by (with_reducible repeat (first | apply Kd.R_alloc | apply Kd.R_drewN | apply Kd.R_drew)); exact HO_30.out))) (below_size (by repeat (first | (with_reducible first | exact HB.out | apply below_alloc | apply pw_below_drewN | apply below_drew1) | exact HB.out)))); have n3_ := Aside0.mk (below_step (by repeat (first | (with_reducible first | exact HB.out | apply below_alloc | apply pw_below_drewN | apply below_drew1) | exact HB.out)) hb); clear HO_3; clear HO_30; clear HB; have HO_3 := n0_; have HO_30 := n1_; have HO224 := n2_; have HB := n3_; clear n0_ n1_ n2_ n3_; (try clear hb); (try clear hb2); (try clear hk); (try clear hi); (try clear ho0)) | ((with_reducible refine gate_callee (f := 14) rfl ?_); refine goesL_ (some 111) rfl rfl Tryz.func14 (by kernel_rfl) rfl #[.int .i64 t222] rfl (by (try simp only [List.map_toArray, List.map_cons, List.map_nil]); first | done | rfl | (simp only [List.length_drop, List.length_take]; rfl)) ?_; (with_reducible refine (touchstonelaw01_No.calls t222 t225 _ A77.out).mono ?_); rintro e w' ⟨rfl, ⟨nd, rfl⟩⟩; refine ⟨_, rfl, ?_⟩))
           go_ret
           exact ⟨by first | rfl | (simp [errW_none, errW_some] <;> rfl) | (simp [*, errW_none, errW_some] <;> rfl), by repeat (first | (with_reducible first | exact HB.out | apply below_alloc | apply pw_below_drewN | apply below_drew1) | exact HB.out)⟩
         ·rw [if_neg c75] at H
          exact absurd H (by simp)
        ·rw [if_neg c74] at H
         exact absurd H (by simp)
   ·rw [if_neg c7] at H
    have c7b0 : (t196 == 0) = false := beq_eq_false_iff_ne.mpr c7
    have c7b1 : (t196 != 0) = true := bne_iff_ne.mpr c7
    replace H := Option.bind_eq_some_iff.mp H
    obtain ⟨t197, A870, H⟩ := H
    replace H : (some t197) = some r := H
    have A87 := Aside0.mk A870
    clear A870
    obtain rfl := Option.some.inj H
    go_enter Tryz.func6, Tryz.ntmps6
    go_wp2_with (first | ((with_reducible refine gate_callee (f := 18) rfl ?_); refine goesL_ (some 22) rfl rfl Tryz.func18 (by kernel_rfl) rfl #[.string a0] rfl (by (try simp only [List.map_toArray, List.map_cons, List.map_nil]); first | done | rfl | (simp only [List.length_drop, List.length_take]; rfl)) ?_; (with_reducible refine (lex_Lex.calls k a0 t191 t192 t193 _ ?side1 A5.out).mono ?_); (case side1 => exact EnvOk.below HE.out (by repeat (first | (with_reducible first | exact HB.out | apply below_alloc | apply pw_below_drewN | apply below_drew1) | exact HB.out))); rintro e w88 ⟨v194, rfl, ho0, hb⟩; refine ⟨_, rfl, ?_⟩; have n0_ := Aside0.mk (Kd.R_lower ho0 (below_size (by repeat (first | (with_reducible first | exact HB.out | apply below_alloc | apply pw_below_drewN | apply below_drew1) | exact HB.out)))); have n1_ := Aside0.mk (below_step (by repeat (first | (with_reducible first | exact HB.out | apply below_alloc | apply pw_below_drewN | apply below_drew1) | exact HB.out)) hb); clear HB; have HO195 := n0_; have HB := n1_; clear n0_ n1_; (try clear hb); (try clear hb2); (try clear hk); (try clear hi); (try clear ho0)) | ((with_reducible refine gate_callee (f := 14) rfl ?_); refine goesL_ (some 27) rfl rfl Tryz.func14 (by kernel_rfl) rfl #[.int .i64 t193] rfl (by (try simp only [List.map_toArray, List.map_cons, List.map_nil]); first | done | rfl | (simp only [List.length_drop, List.length_take]; rfl)) ?_; (with_reducible refine (touchstonelaw01_No.calls t193 t196 _ A6.out).mono ?_); rintro e w' ⟨rfl, ⟨nd, rfl⟩⟩; refine ⟨_, rfl, ?_⟩) | ((with_reducible refine gate_callee (f := 9) rfl ?_); refine goesL_ (some 29) rfl rfl Tryz.func9 (by kernel_rfl) rfl #[] rfl (by (try simp only [List.map_toArray, List.map_cons, List.map_nil]); first | done | rfl | (simp only [List.length_drop, List.length_take]; rfl)) ?_; (with_reducible refine (touchstonelaw06_alive.calls k  t197 _ ?side1 A87.out).mono ?_); (case side1 => exact EnvOk.below HE.out (by repeat (first | (with_reducible first | exact HB.out | apply below_alloc | apply pw_below_drewN | apply below_drew1) | exact HB.out))); rintro e w89 ⟨rfl, hb⟩; refine ⟨_, rfl, ?_⟩; have n0_ := Aside0.mk (Kd.R_below (by (with_reducible repeat (first | apply Kd.R_alloc | apply Kd.R_drewN | apply Kd.R_drew)); exact HO195.out) hb); have n1_ := Aside0.mk (below_step (by repeat (first | (with_reducible first | exact HB.out | apply below_alloc | apply pw_below_drewN | apply below_drew1) | exact HB.out)) hb); clear HO195; clear HB; have HO195 := n0_; have HB := n1_; clear n0_ n1_; (try clear hb); (try clear hb2); (try clear hk); (try clear hi)))
    go_ret
    exact ⟨by first | rfl | (simp [errW_none, errW_some] <;> rfl) | (simp [*, errW_none, errW_some] <;> rfl), by repeat (first | (with_reducible first | exact HB.out | apply below_alloc | apply pw_below_drewN | apply below_drew1) | exact HB.out)⟩

end Go.Proofs.YtaikpnenegifnaaGreatDoor.XL
