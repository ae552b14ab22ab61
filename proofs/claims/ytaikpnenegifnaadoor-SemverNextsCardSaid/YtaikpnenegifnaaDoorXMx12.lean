-- written by wip/xp.py, a program of this project's session, over the kit's printer
import Derived.Test.YtaikpnenegifnaaDoorXMx0
import Derived.Test.YtaikpnenegifnaaDoorXMx1
import Derived.Test.YtaikpnenegifnaaDoorXMx3
import Derived.Test.YtaikpnenegifnaaDoorXMx5
import Derived.Test.YtaikpnenegifnaaDoorXMx7
import Derived.Test.YtaikpnenegifnaaDoorXMx8
import Derived.Test.YtaikpnenegifnaaDoorXMx9
import Derived.Test.YtaikpnenegifnaaDoorHNext
namespace Go.Proofs.YtaikpnenegifnaaDoor.XM
open Go.RowKit Go.Proofs.YtaikpnenegifnaaDoorW.PrintWords Go.Proofs.YtaikpnenegifnaaDoorW.PrintLast Go.Proofs.YtaikpnenegifnaaDoorW.PrintMore
attribute [local go_sem] max2_int min2_int max_two min_two max_three min_three max_four min_four   -- for this text's walks alone
set_option linter.unusedVariables false
set_option linter.unusedSimpArgs false

attribute [local go_sem high] eqA23
/-! ### touchstonelaw05_SemverNexts: function 5 -/
mutual
def touchstonelaw05_SemverNexts.j0 : Nat → Int → Int → Int → Int → Int → Int → Int → Int → Int → Int → Int → Option (Bool)
  | 0, _, _, _, _, _, _, _, _, _, _, _ => none
  | k + 1, x1, x10, x264000, x264001, x264002, x265000, x265001, x265002, x270000, x270001, x270002 => if x10 = 0 then (touchstonelaw05_SemverNexts.j1 k x1 x264000 x264001 x264002 x265000 x265001 x265002 x270000 x270001 x270002) else (if (x270000 == 0 && (x270001 == 0 && (x270002 == 0))) = true then ((touchstonelaw05_alive.f).bind fun t276 => (some t276)) else (some false))
def touchstonelaw05_SemverNexts.j1 : Nat → Int → Int → Int → Int → Int → Int → Int → Int → Int → Int → Option (Bool)
  | 0, _, _, _, _, _, _, _, _, _, _ => none
  | k + 1, x1, x264000, x264001, x264002, x265000, x265001, x265002, x270000, x270001, x270002 => (semver_Compare.f k x264000 x264001 x264002 x270000 x270001 x270002).bind fun t277 => (if t277 ≥ 0 then (some false) else ((semver_Gap.f x264000 x264001 x264002 x270000 x270001 x270002).bind fun t278 => (if t278 = x1 then ((semver_Right.f x270000 x270001 x270002).bind fun t279 => (if t279 = true then (touchstonelaw05_SemverNexts.j2 k x1 x264000 x264001 x264002 x265000 x265001 x265002 x270000 x270001 x270002) else (some false))) else (some false))))
def touchstonelaw05_SemverNexts.j2 : Nat → Int → Int → Int → Int → Int → Int → Int → Int → Int → Int → Option (Bool)
  | 0, _, _, _, _, _, _, _, _, _, _ => none
  | k + 1, x1, x264000, x264001, x264002, x265000, x265001, x265002, x270000, x270001, x270002 => if x1 = 1 then ((semver_Right.f x265000 x265001 x265002).bind fun t280 => (if t280 = true then ((semver_Compare.f k x264000 x264001 x264002 x265000 x265001 x265002).bind fun t281 => (if t281 < 0 then ((semver_Compare.f k x265000 x265001 x265002 x270000 x270001 x270002).bind fun t282 => (if t282 < 0 then (some false) else ((touchstonelaw05_alive.f).bind fun t283 => (some t283)))) else ((touchstonelaw05_alive.f).bind fun t284 => (some t284)))) else ((touchstonelaw05_alive.f).bind fun t285 => (some t285)))) else (if x265002 = 0 then (if x1 = 2 then ((semver_Right.f x265000 x265001 x265002).bind fun t286 => (if t286 = true then ((semver_Compare.f k x264000 x264001 x264002 x265000 x265001 x265002).bind fun t287 => (if t287 < 0 then ((semver_Compare.f k x265000 x265001 x265002 x270000 x270001 x270002).bind fun t288 => (if t288 < 0 then (some false) else ((touchstonelaw05_alive.f).bind fun t289 => (some t289)))) else ((touchstonelaw05_alive.f).bind fun t290 => (some t290)))) else ((touchstonelaw05_alive.f).bind fun t291 => (some t291)))) else (if x265001 = 0 then ((semver_Right.f x265000 x265001 x265002).bind fun t292 => (if t292 = true then ((semver_Compare.f k x264000 x264001 x264002 x265000 x265001 x265002).bind fun t293 => (if t293 < 0 then ((semver_Compare.f k x265000 x265001 x265002 x270000 x270001 x270002).bind fun t294 => (if t294 < 0 then (some false) else ((touchstonelaw05_alive.f).bind fun t295 => (some t295)))) else ((touchstonelaw05_alive.f).bind fun t296 => (some t296)))) else ((touchstonelaw05_alive.f).bind fun t297 => (some t297)))) else ((touchstonelaw05_alive.f).bind fun t298 => (some t298)))) else ((touchstonelaw05_alive.f).bind fun t299 => (some t299)))
end
def touchstonelaw05_SemverNexts.f (k : Nat) (a0_0 : Int) (a0_1 : Int) (a0_2 : Int) (a1 : Int) (a2_0 : Int) (a2_1 : Int) (a2_2 : Int) : Option (Bool) := (semver_Next.f a0_0 a0_1 a0_2 a1).bind fun bt265 => ((touchstoneref05_Next.f k a0_0 a0_1 a0_2 a1).bind fun bt270 => (if (!(bt265.1 == bt270.1) || (!(bt265.2.1 == bt270.2.1) || (!(bt265.2.2.1 == bt270.2.2.1)))) = true then (some false) else ((touchstonelaw01_No.f bt265.2.2.2).bind fun t275 => (if t275 = bt270.2.2.2 then (touchstonelaw05_SemverNexts.j0 k a1 bt270.2.2.2 a0_0 a0_1 a0_2 a2_0 a2_1 a2_2 bt265.1 bt265.2.1 bt265.2.2.1) else (some false)))))
theorem touchstonelaw05_SemverNexts.mono_l : ∀ k, (∀ y0 y1 y2 y3 y4 y5 y6 y7 y8 y9 y10, LeO (touchstonelaw05_SemverNexts.j0 k y0 y1 y2 y3 y4 y5 y6 y7 y8 y9 y10) (touchstonelaw05_SemverNexts.j0 (k + 1) y0 y1 y2 y3 y4 y5 y6 y7 y8 y9 y10)) ∧ (∀ y0 y1 y2 y3 y4 y5 y6 y7 y8 y9, LeO (touchstonelaw05_SemverNexts.j1 k y0 y1 y2 y3 y4 y5 y6 y7 y8 y9) (touchstonelaw05_SemverNexts.j1 (k + 1) y0 y1 y2 y3 y4 y5 y6 y7 y8 y9)) ∧ (∀ y0 y1 y2 y3 y4 y5 y6 y7 y8 y9, LeO (touchstonelaw05_SemverNexts.j2 k y0 y1 y2 y3 y4 y5 y6 y7 y8 y9) (touchstonelaw05_SemverNexts.j2 (k + 1) y0 y1 y2 y3 y4 y5 y6 y7 y8 y9))
  | 0 => ⟨fun _ _ _ _ _ _ _ _ _ _ _ r h => by simp [touchstonelaw05_SemverNexts.j0] at h, fun _ _ _ _ _ _ _ _ _ _ r h => by simp [touchstonelaw05_SemverNexts.j1] at h, fun _ _ _ _ _ _ _ _ _ _ r h => by simp [touchstonelaw05_SemverNexts.j2] at h⟩
  | k + 1 => by
    obtain ⟨ih0, ih1, ih2⟩ := touchstonelaw05_SemverNexts.mono_l k
    refine ⟨?_, ?_, ?_⟩
    · intro y0 y1 y2 y3 y4 y5 y6 y7 y8 y9 y10
      unfold touchstonelaw05_SemverNexts.j0
      repeat' first
      | (with_reducible exact ih0 _ _ _ _ _ _ _ _ _ _ _)
      | (with_reducible exact ih1 _ _ _ _ _ _ _ _ _ _)
      | (with_reducible exact ih2 _ _ _ _ _ _ _ _ _ _)
      | (with_reducible exact semver_Compare.mono _ _ _ _ _ _ _)
      | (with_reducible exact touchstoneref05_Next.mono _ _ _ _ _)
      | (with_reducible exact LeO.refl _)
      | (with_reducible exact LeO.none _)
      | (with_reducible refine LeO.ite ?_ ?_)
      | (with_reducible refine LeO.bind ?_ (fun _ => ?_))
      | exact ih0 _ _ _ _ _ _ _ _ _ _ _
      | exact ih1 _ _ _ _ _ _ _ _ _ _
      | exact ih2 _ _ _ _ _ _ _ _ _ _
      | exact semver_Compare.mono _ _ _ _ _ _ _
      | exact touchstoneref05_Next.mono _ _ _ _ _
      | exact LeO.none _
      | refine LeO.ite ?_ ?_
      | refine LeO.bind ?_ (fun _ => ?_)
    · intro y0 y1 y2 y3 y4 y5 y6 y7 y8 y9
      unfold touchstonelaw05_SemverNexts.j1
      repeat' first
      | (with_reducible exact ih0 _ _ _ _ _ _ _ _ _ _ _)
      | (with_reducible exact ih1 _ _ _ _ _ _ _ _ _ _)
      | (with_reducible exact ih2 _ _ _ _ _ _ _ _ _ _)
      | (with_reducible exact semver_Compare.mono _ _ _ _ _ _ _)
      | (with_reducible exact touchstoneref05_Next.mono _ _ _ _ _)
      | (with_reducible exact LeO.refl _)
      | (with_reducible exact LeO.none _)
      | (with_reducible refine LeO.ite ?_ ?_)
      | (with_reducible refine LeO.bind ?_ (fun _ => ?_))
      | exact ih0 _ _ _ _ _ _ _ _ _ _ _
      | exact ih1 _ _ _ _ _ _ _ _ _ _
      | exact ih2 _ _ _ _ _ _ _ _ _ _
      | exact semver_Compare.mono _ _ _ _ _ _ _
      | exact touchstoneref05_Next.mono _ _ _ _ _
      | exact LeO.none _
      | refine LeO.ite ?_ ?_
      | refine LeO.bind ?_ (fun _ => ?_)
    · intro y0 y1 y2 y3 y4 y5 y6 y7 y8 y9
      unfold touchstonelaw05_SemverNexts.j2
      repeat' first
      | (with_reducible exact ih0 _ _ _ _ _ _ _ _ _ _ _)
      | (with_reducible exact ih1 _ _ _ _ _ _ _ _ _ _)
      | (with_reducible exact ih2 _ _ _ _ _ _ _ _ _ _)
      | (with_reducible exact semver_Compare.mono _ _ _ _ _ _ _)
      | (with_reducible exact touchstoneref05_Next.mono _ _ _ _ _)
      | (with_reducible exact LeO.refl _)
      | (with_reducible exact LeO.none _)
      | (with_reducible refine LeO.ite ?_ ?_)
      | (with_reducible refine LeO.bind ?_ (fun _ => ?_))
      | exact ih0 _ _ _ _ _ _ _ _ _ _ _
      | exact ih1 _ _ _ _ _ _ _ _ _ _
      | exact ih2 _ _ _ _ _ _ _ _ _ _
      | exact semver_Compare.mono _ _ _ _ _ _ _
      | exact touchstoneref05_Next.mono _ _ _ _ _
      | exact LeO.none _
      | refine LeO.ite ?_ ?_
      | refine LeO.bind ?_ (fun _ => ?_)
theorem touchstonelaw05_SemverNexts.mono : ∀ a0 a1 a2 a3 a4 a5 a6 k, LeO (touchstonelaw05_SemverNexts.f k a0 a1 a2 a3 a4 a5 a6) (touchstonelaw05_SemverNexts.f (k + 1) a0 a1 a2 a3 a4 a5 a6) := by
  intro a0 a1 a2 a3 a4 a5 a6 k
  obtain ⟨ih0, ih1, ih2⟩ := touchstonelaw05_SemverNexts.mono_l k
  unfold touchstonelaw05_SemverNexts.f
  repeat' first
      | (with_reducible exact ih0 _ _ _ _ _ _ _ _ _ _ _)
      | (with_reducible exact ih1 _ _ _ _ _ _ _ _ _ _)
      | (with_reducible exact ih2 _ _ _ _ _ _ _ _ _ _)
      | (with_reducible exact semver_Compare.mono _ _ _ _ _ _ _)
      | (with_reducible exact touchstoneref05_Next.mono _ _ _ _ _)
      | (with_reducible exact LeO.refl _)
      | (with_reducible exact LeO.none _)
      | (with_reducible refine LeO.ite ?_ ?_)
      | (with_reducible refine LeO.bind ?_ (fun _ => ?_))
      | exact ih0 _ _ _ _ _ _ _ _ _ _ _
      | exact ih1 _ _ _ _ _ _ _ _ _ _
      | exact ih2 _ _ _ _ _ _ _ _ _ _
      | exact semver_Compare.mono _ _ _ _ _ _ _
      | exact touchstoneref05_Next.mono _ _ _ _ _
      | exact LeO.none _
      | refine LeO.ite ?_ ?_
      | refine LeO.bind ?_ (fun _ => ?_)
set_option maxHeartbeats 8000000 in
set_option maxRecDepth 100000 in
theorem touchstonelaw05_SemverNexts.calls (k : Nat) (a0_0 : Int) (a0_1 : Int) (a0_2 : Int) (a1 : Int) (a2_0 : Int) (a2_1 : Int) (a2_2 : Int) (r : Bool) (w : World) (hE : EnvOk w) (hRT : r = true) (h : touchstonelaw05_SemverNexts.f k a0_0 a0_1 a0_2 a1 a2_0 a2_1 a2_2 = some r) :
    Calls Tryd.prog 5 #[.agg #[.int .i64 a0_0, .int .i64 a0_1, .int .i64 a0_2], .int .i64 a1, .agg #[.int .i64 a2_0, .int .i64 a2_1, .int .i64 a2_2]] w fun e w' => e = .returned (.bool r) ∧ Below w.heap.size w w' := by
  have hu23 := Tryd.underlying23
  have HRT := Aside0.mk hRT
  clear hRT
  have HE := Aside0.mk hE
  clear hE
  have HB := Aside0.mk (Below.refl w.heap.size w)
  have H : ((semver_Next.f a0_0 a0_1 a0_2 a1).bind fun bt265 => ((touchstoneref05_Next.f k a0_0 a0_1 a0_2 a1).bind fun bt270 => (if (!(bt265.1 == bt270.1) || (!(bt265.2.1 == bt270.2.1) || (!(bt265.2.2.1 == bt270.2.2.1)))) = true then (some false) else ((touchstonelaw01_No.f bt265.2.2.2).bind fun t275 => (if t275 = bt270.2.2.2 then (touchstonelaw05_SemverNexts.j0 k a1 bt270.2.2.2 a0_0 a0_1 a0_2 a2_0 a2_1 a2_2 bt265.1 bt265.2.1 bt265.2.2.1) else (some false)))))) = some r := h
  clear h
  replace H := Option.bind_eq_some_iff.mp H
  obtain ⟨⟨t265, t266, t267, t268⟩, A40, H⟩ := H
  replace H : ((touchstoneref05_Next.f k a0_0 a0_1 a0_2 a1).bind fun bt270 => (if (!(t265 == bt270.1) || (!(t266 == bt270.2.1) || (!(t267 == bt270.2.2.1)))) = true then (some false) else ((touchstonelaw01_No.f t268).bind fun t275 => (if t275 = bt270.2.2.2 then (touchstonelaw05_SemverNexts.j0 k a1 bt270.2.2.2 a0_0 a0_1 a0_2 a2_0 a2_1 a2_2 t265 t266 t267) else (some false))))) = some r := H
  have A4 := Aside0.mk A40
  clear A40
  replace H := Option.bind_eq_some_iff.mp H
  obtain ⟨⟨t270, t271, t272, t273⟩, A50, H⟩ := H
  replace H : (if (!(t265 == t270) || (!(t266 == t271) || (!(t267 == t272)))) = true then (some false) else ((touchstonelaw01_No.f t268).bind fun t275 => (if t275 = t273 then (touchstonelaw05_SemverNexts.j0 k a1 t273 a0_0 a0_1 a0_2 a2_0 a2_1 a2_2 t265 t266 t267) else (some false)))) = some r := H
  have A5 := Aside0.mk A50
  clear A50
  by_cases c6 : (!(t265 == t270) || (!(t266 == t271) || (!(t267 == t272)))) = true
  ·rw [if_pos c6] at H
   have c6b0 : (!(t265 == t270) || (!(t266 == t271) || (!(t267 == t272)))) = true := c6
   clear c6
   exact absurd ((Option.some.inj H).trans HRT.out) (by decide)
  ·rw [if_neg c6] at H
   have c6b0 : (!(t265 == t270) || (!(t266 == t271) || (!(t267 == t272)))) = false := by simpa using c6
   clear c6
   replace H := Option.bind_eq_some_iff.mp H
   obtain ⟨t275, A70, H⟩ := H
   replace H : (if t275 = t273 then (touchstonelaw05_SemverNexts.j0 k a1 t273 a0_0 a0_1 a0_2 a2_0 a2_1 a2_2 t265 t266 t267) else (some false)) = some r := H
   have A7 := Aside0.mk A70
   clear A70
   have HC8 := Aside0.mk H
   clear H
   go_enter Tryd.func5, Tryd.ntmps5
   go_upto_if 32 with (first | ((with_reducible refine gate_dst (N := 3) rfl ?_); refine box_event ?hg (N := 3) ?hd (cs := #[.int .i64 a0_0, .int .i64 a0_1, .int .i64 a0_2]) (t := 23) ?hr ?_; (case hd => rfl); (case hg => rfl); (case hr => first | (go_simp; done) | (go_simp; rfl)); intro gb263 hg w9 hbox hb; have n0_ := Aside0.mk (below_step (by repeat (first | (with_reducible first | exact HB.out | apply below_alloc | apply pw_below_drewN | apply below_drew1) | exact HB.out)) hb); have n1_ := Aside0.mk (hbox); have n2_ := Aside0.mk ((by rw [hg]; exact (below_size (by repeat (first | (with_reducible first | exact HB.out | apply below_alloc | apply pw_below_drewN | apply below_drew1) | exact HB.out))) : w.heap.size ≤ gb263)); have n3_ := Aside0.mk ((by rw [hg]; exact (below_size (by repeat (first | (with_reducible first | exact HB.out | apply below_alloc | apply pw_below_drewN | apply below_drew1) | exact HB.out))) : w.heap.size ≤ gb263)); clear HB; have HB := n0_; have BK263 := n1_; have GW263 := n2_; have GE263 := n3_; clear n0_ n1_ n2_ n3_; clear hb hbox hg) | ((with_reducible refine gate_dst (N := 5) rfl ?_); refine box_event ?hg (N := 5) ?hd (cs := #[.int .i64 a2_0, .int .i64 a2_1, .int .i64 a2_2]) (t := 23) ?hr ?_; (case hd => rfl); (case hg => rfl); (case hr => first | (go_simp; done) | (go_simp; rfl)); intro gb264 hg w10 hbox hb; have n0_ := Aside0.mk (blk_below (g := gb263) (o := .cells #[.int .i64 a0_0, .int .i64 a0_1, .int .i64 a0_2] 23 (0, 0)) (by (with_reducible repeat (first | refine blk_drewN ?_ _ | refine blk_drew ?_ | refine blk_alloc ?_ _)); exact BK263.out) hb); have n1_ := Aside0.mk (below_step (by repeat (first | (with_reducible first | exact HB.out | apply below_alloc | apply pw_below_drewN | apply below_drew1 | refine below_set ?_ GE263.out) | exact HB.out)) hb); have n2_ := Aside0.mk (hbox); have n3_ := Aside0.mk ((by rw [hg]; exact (below_size (by repeat (first | (with_reducible first | exact HB.out | apply below_alloc | apply pw_below_drewN | apply below_drew1 | refine below_set ?_ GE263.out) | exact HB.out))) : w.heap.size ≤ gb264)); have n4_ := Aside0.mk ((by rw [hg]; exact (below_size (by repeat (first | (with_reducible first | exact HB.out | apply below_alloc | apply pw_below_drewN | apply below_drew1 | refine below_set ?_ GE263.out) | exact HB.out))) : w.heap.size ≤ gb264)); have n5_ := Aside0.mk ((by rw [hg]; exact Nat.ne_of_lt (blk_lt (g := gb263) (o := .cells #[.int .i64 a0_0, .int .i64 a0_1, .int .i64 a0_2] 23 (0, 0)) (by (with_reducible repeat (first | refine blk_drewN ?_ _ | refine blk_drew ?_ | refine blk_alloc ?_ _)); exact BK263.out)) : gb263 ≠ gb264)); have n6_ := Aside0.mk ((by rw [hg]; exact Nat.ne_of_gt (blk_lt (g := gb263) (o := .cells #[.int .i64 a0_0, .int .i64 a0_1, .int .i64 a0_2] 23 (0, 0)) (by (with_reducible repeat (first | refine blk_drewN ?_ _ | refine blk_drew ?_ | refine blk_alloc ?_ _)); exact BK263.out)) : gb264 ≠ gb263)); clear BK263; clear HB; have BK263 := n0_; have HB := n1_; have BK264 := n2_; have GW264 := n3_; have GE264 := n4_; have NB263_264 := n5_; have NB264_263 := n6_; clear n0_ n1_ n2_ n3_ n4_ n5_ n6_; clear hb hbox hg; have hnb11 := NB263_264.out; have hnc11 := NB264_263.out; have hcz12_0 : w10.cell? ⟨gb263, 0, none⟩ = some (.int .i64 a0_0) := (blk_cell BK263.out 0).trans rfl; have hcz12_1 : w10.cell? ⟨gb263, 1, none⟩ = some (.int .i64 a0_1) := (blk_cell BK263.out 1).trans rfl; have hcz12_2 : w10.cell? ⟨gb263, 2, none⟩ = some (.int .i64 a0_2) := (blk_cell BK263.out 2).trans rfl; have hfz12_0 := blk_frozen BK263.out 0; have hfz12_1 := blk_frozen BK263.out 1; have hfz12_2 := blk_frozen BK263.out 2) | ((with_reducible refine gate_callee (f := 23) rfl ?_); refine goesL_ (some 15) rfl rfl Tryd.func23 (by kernel_rfl) rfl #[.agg #[.int .i64 a0_0, .int .i64 a0_1, .int .i64 a0_2], .int .i64 a1] rfl (by (try simp only [List.map_toArray, List.map_cons, List.map_nil]); first | done | rfl | (simp only [List.length_drop, List.length_take]; rfl)) ?_; (with_reducible refine (semver_Next.calls a0_0 a0_1 a0_2 a1 t265 t266 t267 t268 _ A4.out).mono ?_); rintro e w13 ⟨rfl, hb⟩; refine ⟨_, rfl, ?_⟩; have n0_ := Aside0.mk (blk_below (g := gb263) (o := .cells #[.int .i64 a0_0, .int .i64 a0_1, .int .i64 a0_2] 23 (0, 0)) (by (with_reducible repeat (first | refine blk_drewN ?_ _ | refine blk_drew ?_ | refine blk_alloc ?_ _)); exact BK263.out) hb); have n1_ := Aside0.mk (blk_below (g := gb264) (o := .cells #[.int .i64 a2_0, .int .i64 a2_1, .int .i64 a2_2] 23 (0, 0)) (by (with_reducible repeat (first | refine blk_drewN ?_ _ | refine blk_drew ?_ | refine blk_alloc ?_ _)); exact BK264.out) hb); have n2_ := Aside0.mk (below_step (by repeat (first | (with_reducible first | exact HB.out | apply below_alloc | apply pw_below_drewN | apply below_drew1 | refine below_set ?_ GE263.out | refine below_set ?_ GE264.out) | exact HB.out)) hb); clear BK263; clear BK264; clear HB; have BK263 := n0_; have BK264 := n1_; have HB := n2_; clear n0_ n1_ n2_; (try clear hb); (try clear hb2); (try clear hk); (try clear hi)) | ((with_reducible refine gate_dst (N := 7) rfl ?_); refine box_event ?hg (N := 7) ?hd (cs := #[.int .i64 0, .int .i64 0, .int .i64 0]) (t := 23) ?hr ?_; (case hd => rfl); (case hg => rfl); (case hr => first | (go_simp; done) | (go_simp; rfl)); intro gb269 hg w14 hbox hb; have n0_ := Aside0.mk (blk_below (g := gb263) (o := .cells #[.int .i64 a0_0, .int .i64 a0_1, .int .i64 a0_2] 23 (0, 0)) (by (with_reducible repeat (first | refine blk_drewN ?_ _ | refine blk_drew ?_ | refine blk_alloc ?_ _)); exact BK263.out) hb); have n1_ := Aside0.mk (blk_below (g := gb264) (o := .cells #[.int .i64 a2_0, .int .i64 a2_1, .int .i64 a2_2] 23 (0, 0)) (by (with_reducible repeat (first | refine blk_drewN ?_ _ | refine blk_drew ?_ | refine blk_alloc ?_ _)); exact BK264.out) hb); have n2_ := Aside0.mk (below_step (by repeat (first | (with_reducible first | exact HB.out | apply below_alloc | apply pw_below_drewN | apply below_drew1 | refine below_set ?_ GE263.out | refine below_set ?_ GE264.out) | exact HB.out)) hb); have n3_ := Aside0.mk (hbox); have n4_ := Aside0.mk ((by rw [hg]; exact (below_size (by repeat (first | (with_reducible first | exact HB.out | apply below_alloc | apply pw_below_drewN | apply below_drew1 | refine below_set ?_ GE263.out | refine below_set ?_ GE264.out) | exact HB.out))) : w.heap.size ≤ gb269)); have n5_ := Aside0.mk ((by rw [hg]; exact (below_size (by repeat (first | (with_reducible first | exact HB.out | apply below_alloc | apply pw_below_drewN | apply below_drew1 | refine below_set ?_ GE263.out | refine below_set ?_ GE264.out) | exact HB.out))) : w.heap.size ≤ gb269)); have n6_ := Aside0.mk ((by rw [hg]; exact Nat.ne_of_lt (blk_lt (g := gb263) (o := .cells #[.int .i64 a0_0, .int .i64 a0_1, .int .i64 a0_2] 23 (0, 0)) (by (with_reducible repeat (first | refine blk_drewN ?_ _ | refine blk_drew ?_ | refine blk_alloc ?_ _)); exact BK263.out)) : gb263 ≠ gb269)); have n7_ := Aside0.mk ((by rw [hg]; exact Nat.ne_of_gt (blk_lt (g := gb263) (o := .cells #[.int .i64 a0_0, .int .i64 a0_1, .int .i64 a0_2] 23 (0, 0)) (by (with_reducible repeat (first | refine blk_drewN ?_ _ | refine blk_drew ?_ | refine blk_alloc ?_ _)); exact BK263.out)) : gb269 ≠ gb263)); have n8_ := Aside0.mk ((by rw [hg]; exact Nat.ne_of_lt (blk_lt (g := gb264) (o := .cells #[.int .i64 a2_0, .int .i64 a2_1, .int .i64 a2_2] 23 (0, 0)) (by (with_reducible repeat (first | refine blk_drewN ?_ _ | refine blk_drew ?_ | refine blk_alloc ?_ _)); exact BK264.out)) : gb264 ≠ gb269)); have n9_ := Aside0.mk ((by rw [hg]; exact Nat.ne_of_gt (blk_lt (g := gb264) (o := .cells #[.int .i64 a2_0, .int .i64 a2_1, .int .i64 a2_2] 23 (0, 0)) (by (with_reducible repeat (first | refine blk_drewN ?_ _ | refine blk_drew ?_ | refine blk_alloc ?_ _)); exact BK264.out)) : gb269 ≠ gb264)); clear BK263; clear BK264; clear HB; have BK263 := n0_; have BK264 := n1_; have HB := n2_; have BK269 := n3_; have GW269 := n4_; have GE269 := n5_; have NB263_269 := n6_; have NB269_263 := n7_; have NB264_269 := n8_; have NB269_264 := n9_; clear n0_ n1_ n2_ n3_ n4_ n5_ n6_ n7_ n8_ n9_; clear hb hbox hg; have hnb15 := NB269_263.out; have hnc15 := NB263_269.out; have hnb16 := NB269_264.out; have hnc16 := NB264_269.out; have hcz17_0 : w14.cell? ⟨gb269, 0, none⟩ = some (.int .i64 0) := (blk_cell BK269.out 0).trans rfl; have hcz17_1 : w14.cell? ⟨gb269, 1, none⟩ = some (.int .i64 0) := (blk_cell BK269.out 1).trans rfl; have hcz17_2 : w14.cell? ⟨gb269, 2, none⟩ = some (.int .i64 0) := (blk_cell BK269.out 2).trans rfl; have hfz17_0 := blk_frozen BK269.out 0; have hfz17_1 := blk_frozen BK269.out 1; have hfz17_2 := blk_frozen BK269.out 2; have hcz18_0 : w14.cell? ⟨gb263, 0, none⟩ = some (.int .i64 a0_0) := (blk_cell BK263.out 0).trans rfl; have hcz18_1 : w14.cell? ⟨gb263, 1, none⟩ = some (.int .i64 a0_1) := (blk_cell BK263.out 1).trans rfl; have hcz18_2 : w14.cell? ⟨gb263, 2, none⟩ = some (.int .i64 a0_2) := (blk_cell BK263.out 2).trans rfl; have hfz18_0 := blk_frozen BK263.out 0; have hfz18_1 := blk_frozen BK263.out 1; have hfz18_2 := blk_frozen BK263.out 2) | ((with_reducible refine gate_callee (f := 24) rfl ?_); refine goesL_ (some 21) rfl rfl Tryd.func24 (by kernel_rfl) rfl #[.agg #[.int .i64 a0_0, .int .i64 a0_1, .int .i64 a0_2], .int .i64 a1] rfl (by (try simp only [List.map_toArray, List.map_cons, List.map_nil]); first | done | rfl | (simp only [List.length_drop, List.length_take]; rfl)) ?_; (with_reducible refine (touchstoneref05_Next.calls k a0_0 a0_1 a0_2 a1 t270 t271 t272 t273 _ A5.out).mono ?_); rintro e w19 ⟨rfl, hb⟩; refine ⟨_, rfl, ?_⟩; have n0_ := Aside0.mk (blk_below (g := gb263) (o := .cells #[.int .i64 a0_0, .int .i64 a0_1, .int .i64 a0_2] 23 (0, 0)) (by (with_reducible repeat (first | refine blk_drewN ?_ _ | refine blk_drew ?_ | refine blk_alloc ?_ _)); refine blk_far ?_ NB263_269.out _; (with_reducible repeat (first | refine blk_drewN ?_ _ | refine blk_drew ?_ | refine blk_alloc ?_ _)); refine blk_far ?_ NB263_269.out _; (with_reducible repeat (first | refine blk_drewN ?_ _ | refine blk_drew ?_ | refine blk_alloc ?_ _)); refine blk_far ?_ NB263_269.out _; (with_reducible repeat (first | refine blk_drewN ?_ _ | refine blk_drew ?_ | refine blk_alloc ?_ _)); exact BK263.out) hb); have n1_ := Aside0.mk (blk_below (g := gb264) (o := .cells #[.int .i64 a2_0, .int .i64 a2_1, .int .i64 a2_2] 23 (0, 0)) (by (with_reducible repeat (first | refine blk_drewN ?_ _ | refine blk_drew ?_ | refine blk_alloc ?_ _)); refine blk_far ?_ NB264_269.out _; (with_reducible repeat (first | refine blk_drewN ?_ _ | refine blk_drew ?_ | refine blk_alloc ?_ _)); refine blk_far ?_ NB264_269.out _; (with_reducible repeat (first | refine blk_drewN ?_ _ | refine blk_drew ?_ | refine blk_alloc ?_ _)); refine blk_far ?_ NB264_269.out _; (with_reducible repeat (first | refine blk_drewN ?_ _ | refine blk_drew ?_ | refine blk_alloc ?_ _)); exact BK264.out) hb); have n2_ := Aside0.mk (blk_below (g := gb269) (o := .cells #[.int .i64 t265, .int .i64 t266, .int .i64 t267] 23 (0, 0)) (by (with_reducible repeat (first | refine blk_drewN ?_ _ | refine blk_drew ?_ | refine blk_alloc ?_ _)); refine blk_put (cs := #[.int .i64 t265, .int .i64 t266, .int .i64 0]) ?_ 2 _ rfl; (with_reducible repeat (first | refine blk_drewN ?_ _ | refine blk_drew ?_ | refine blk_alloc ?_ _)); refine blk_put (cs := #[.int .i64 t265, .int .i64 0, .int .i64 0]) ?_ 1 _ rfl; (with_reducible repeat (first | refine blk_drewN ?_ _ | refine blk_drew ?_ | refine blk_alloc ?_ _)); refine blk_put (cs := #[.int .i64 0, .int .i64 0, .int .i64 0]) ?_ 0 _ rfl; (with_reducible repeat (first | refine blk_drewN ?_ _ | refine blk_drew ?_ | refine blk_alloc ?_ _)); exact BK269.out) hb); have n3_ := Aside0.mk (below_step (by repeat (first | (with_reducible first | exact HB.out | apply below_alloc | apply pw_below_drewN | apply below_drew1 | refine below_set ?_ GE263.out | refine below_set ?_ GE264.out | refine below_set ?_ GE269.out) | exact HB.out)) hb); clear BK263; clear BK264; clear BK269; clear HB; have BK263 := n0_; have BK264 := n1_; have BK269 := n2_; have HB := n3_; clear n0_ n1_ n2_ n3_; (try clear hb); (try clear hb2); (try clear hk); (try clear hi)) | ((with_reducible refine gate_dst (N := 9) rfl ?_); refine box_event ?hg (N := 9) ?hd (cs := #[.int .i64 0, .int .i64 0, .int .i64 0]) (t := 23) ?hr ?_; (case hd => rfl); (case hg => rfl); (case hr => first | (go_simp; done) | (go_simp; rfl)); intro gb274 hg w20 hbox hb; have n0_ := Aside0.mk (blk_below (g := gb263) (o := .cells #[.int .i64 a0_0, .int .i64 a0_1, .int .i64 a0_2] 23 (0, 0)) (by (with_reducible repeat (first | refine blk_drewN ?_ _ | refine blk_drew ?_ | refine blk_alloc ?_ _)); exact BK263.out) hb); have n1_ := Aside0.mk (blk_below (g := gb264) (o := .cells #[.int .i64 a2_0, .int .i64 a2_1, .int .i64 a2_2] 23 (0, 0)) (by (with_reducible repeat (first | refine blk_drewN ?_ _ | refine blk_drew ?_ | refine blk_alloc ?_ _)); exact BK264.out) hb); have n2_ := Aside0.mk (blk_below (g := gb269) (o := .cells #[.int .i64 t265, .int .i64 t266, .int .i64 t267] 23 (0, 0)) (by (with_reducible repeat (first | refine blk_drewN ?_ _ | refine blk_drew ?_ | refine blk_alloc ?_ _)); exact BK269.out) hb); have n3_ := Aside0.mk (below_step (by repeat (first | (with_reducible first | exact HB.out | apply below_alloc | apply pw_below_drewN | apply below_drew1 | refine below_set ?_ GE263.out | refine below_set ?_ GE264.out | refine below_set ?_ GE269.out) | exact HB.out)) hb); have n4_ := Aside0.mk (hbox); have n5_ := Aside0.mk ((by rw [hg]; exact (below_size (by repeat (first | (with_reducible first | exact HB.out | apply below_alloc | apply pw_below_drewN | apply below_drew1 | refine below_set ?_ GE263.out | refine below_set ?_ GE264.out | refine below_set ?_ GE269.out) | exact HB.out))) : w.heap.size ≤ gb274)); have n6_ := Aside0.mk ((by rw [hg]; exact (below_size (by repeat (first | (with_reducible first | exact HB.out | apply below_alloc | apply pw_below_drewN | apply below_drew1 | refine below_set ?_ GE263.out | refine below_set ?_ GE264.out | refine below_set ?_ GE269.out) | exact HB.out))) : w.heap.size ≤ gb274)); have n7_ := Aside0.mk ((by rw [hg]; exact Nat.ne_of_lt (blk_lt (g := gb263) (o := .cells #[.int .i64 a0_0, .int .i64 a0_1, .int .i64 a0_2] 23 (0, 0)) (by (with_reducible repeat (first | refine blk_drewN ?_ _ | refine blk_drew ?_ | refine blk_alloc ?_ _)); exact BK263.out)) : gb263 ≠ gb274)); have n8_ := Aside0.mk ((by rw [hg]; exact Nat.ne_of_gt (blk_lt (g := gb263) (o := .cells #[.int .i64 a0_0, .int .i64 a0_1, .int .i64 a0_2] 23 (0, 0)) (by (with_reducible repeat (first | refine blk_drewN ?_ _ | refine blk_drew ?_ | refine blk_alloc ?_ _)); exact BK263.out)) : gb274 ≠ gb263)); have n9_ := Aside0.mk ((by rw [hg]; exact Nat.ne_of_lt (blk_lt (g := gb264) (o := .cells #[.int .i64 a2_0, .int .i64 a2_1, .int .i64 a2_2] 23 (0, 0)) (by (with_reducible repeat (first | refine blk_drewN ?_ _ | refine blk_drew ?_ | refine blk_alloc ?_ _)); exact BK264.out)) : gb264 ≠ gb274)); have n10_ := Aside0.mk ((by rw [hg]; exact Nat.ne_of_gt (blk_lt (g := gb264) (o := .cells #[.int .i64 a2_0, .int .i64 a2_1, .int .i64 a2_2] 23 (0, 0)) (by (with_reducible repeat (first | refine blk_drewN ?_ _ | refine blk_drew ?_ | refine blk_alloc ?_ _)); exact BK264.out)) : gb274 ≠ gb264)); have n11_ := Aside0.mk ((by rw [hg]; exact Nat.ne_of_lt (blk_lt (g := gb269) (o := .cells #[.int .i64 t265, .int .i64 t266, .int .i64 t267] 23 (0, 0)) (by (with_reducible repeat (first | refine blk_drewN ?_ _ | refine blk_drew ?_ | refine blk_alloc ?_ _)); exact BK269.out)) : gb269 ≠ gb274)); have n12_ := Aside0.mk ((by rw [hg]; exact Nat.ne_of_gt (blk_lt (g := gb269) (o := .cells #[.int .i64 t265, .int .i64 t266, .int .i64 t267] 23 (0, 0)) (by (with_reducible repeat (first | refine blk_drewN ?_ _ | refine blk_drew ?_ | refine blk_alloc ?_ _)); exact BK269.out)) : gb274 ≠ gb269)); clear BK263; clear BK264; clear BK269; clear HB; have BK263 := n0_; have BK264 := n1_; have BK269 := n2_; have HB := n3_; have BK274 := n4_; have GW274 := n5_; have GE274 := n6_; have NB263_274 := n7_; have NB274_263 := n8_; have NB264_274 := n9_; have NB274_264 := n10_; have NB269_274 := n11_; have NB274_269 := n12_; clear n0_ n1_ n2_ n3_ n4_ n5_ n6_ n7_ n8_ n9_ n10_ n11_ n12_; clear hb hbox hg; have hnb21 := NB274_263.out; have hnc21 := NB263_274.out; have hnb22 := NB274_264.out; have hnc22 := NB264_274.out; have hnb23 := NB274_269.out; have hnc23 := NB269_274.out; have hcz24_0 : w20.cell? ⟨gb274, 0, none⟩ = some (.int .i64 0) := (blk_cell BK274.out 0).trans rfl; have hcz24_1 : w20.cell? ⟨gb274, 1, none⟩ = some (.int .i64 0) := (blk_cell BK274.out 1).trans rfl; have hcz24_2 : w20.cell? ⟨gb274, 2, none⟩ = some (.int .i64 0) := (blk_cell BK274.out 2).trans rfl; have hfz24_0 := blk_frozen BK274.out 0; have hfz24_1 := blk_frozen BK274.out 1; have hfz24_2 := blk_frozen BK274.out 2; have hcz25_0 : w20.cell? ⟨gb269, 0, none⟩ = some (.int .i64 t265) := (blk_cell BK269.out 0).trans rfl; have hcz25_1 : w20.cell? ⟨gb269, 1, none⟩ = some (.int .i64 t266) := (blk_cell BK269.out 1).trans rfl; have hcz25_2 : w20.cell? ⟨gb269, 2, none⟩ = some (.int .i64 t267) := (blk_cell BK269.out 2).trans rfl; have hfz25_0 := blk_frozen BK269.out 0; have hfz25_1 := blk_frozen BK269.out 1; have hfz25_2 := blk_frozen BK269.out 2) | (go_at_call 12; (with_reducible refine (touchstonelaw01_No.calls t268 t275 _ A7.out).mono ?_); rintro e w' ⟨rfl, ⟨nd, rfl⟩⟩))
   (try simp only [Act.put, List.setIfInBounds_toArray, List.set_cons_zero, List.set_cons_succ])
   go_cut [] (fun wc => ∃ (kq : Nat), Aside0 (touchstonelaw05_SemverNexts.j0 kq a1 t273 a0_0 a0_1 a0_2 a2_0 a2_1 a2_2 t265 t266 t267 = some r) ∧ Aside0 (kq ≤ k) ∧ Aside0 (wc.heap[gb263]? = some (.cells #[.int .i64 a0_0, .int .i64 a0_1, .int .i64 a0_2] 23 (0, 0))) ∧ Aside0 (wc.heap[gb264]? = some (.cells #[.int .i64 a2_0, .int .i64 a2_1, .int .i64 a2_2] 23 (0, 0))) ∧ Aside0 (wc.heap[gb269]? = some (.cells #[.int .i64 t265, .int .i64 t266, .int .i64 t267] 23 (0, 0))) ∧ Aside0 (wc.heap[gb274]? = some (.cells #[.int .i64 t270, .int .i64 t271, .int .i64 t272] 23 (0, 0))) ∧ Aside0 (Below w.heap.size w wc))
   case first =>
    have H := HC8.out
    clear HC8
    by_cases c26 : t275 = t273
    ·rw [if_pos c26] at H
     have c26b0 : (t275 == t273) = true := beq_iff_eq.mpr c26
     have c26b1 : (t275 != t273) = false := bne_eq_false_iff_eq.mpr c26
     clear c26
     (first | rw [c26b0] | (simp only [i64_w, i32_w]; rw [c26b0]) | rw [c26b2] | skip)
     have H' := Aside0.mk H
     clear H
     go_wp2
     go_meet
     case rel => exact ⟨_, H', ⟨by first | omega | exact Nat.le_refl _⟩, ⟨by (with_reducible repeat (first | refine blk_drewN ?_ _ | refine blk_drew ?_ | refine blk_alloc ?_ _)); refine blk_far ?_ NB263_274.out _; (with_reducible repeat (first | refine blk_drewN ?_ _ | refine blk_drew ?_ | refine blk_alloc ?_ _)); refine blk_far ?_ NB263_274.out _; (with_reducible repeat (first | refine blk_drewN ?_ _ | refine blk_drew ?_ | refine blk_alloc ?_ _)); refine blk_far ?_ NB263_274.out _; (with_reducible repeat (first | refine blk_drewN ?_ _ | refine blk_drew ?_ | refine blk_alloc ?_ _)); exact BK263.out⟩, ⟨by (with_reducible repeat (first | refine blk_drewN ?_ _ | refine blk_drew ?_ | refine blk_alloc ?_ _)); refine blk_far ?_ NB264_274.out _; (with_reducible repeat (first | refine blk_drewN ?_ _ | refine blk_drew ?_ | refine blk_alloc ?_ _)); refine blk_far ?_ NB264_274.out _; (with_reducible repeat (first | refine blk_drewN ?_ _ | refine blk_drew ?_ | refine blk_alloc ?_ _)); refine blk_far ?_ NB264_274.out _; (with_reducible repeat (first | refine blk_drewN ?_ _ | refine blk_drew ?_ | refine blk_alloc ?_ _)); exact BK264.out⟩, ⟨by (with_reducible repeat (first | refine blk_drewN ?_ _ | refine blk_drew ?_ | refine blk_alloc ?_ _)); refine blk_far ?_ NB269_274.out _; (with_reducible repeat (first | refine blk_drewN ?_ _ | refine blk_drew ?_ | refine blk_alloc ?_ _)); refine blk_far ?_ NB269_274.out _; (with_reducible repeat (first | refine blk_drewN ?_ _ | refine blk_drew ?_ | refine blk_alloc ?_ _)); refine blk_far ?_ NB269_274.out _; (with_reducible repeat (first | refine blk_drewN ?_ _ | refine blk_drew ?_ | refine blk_alloc ?_ _)); exact BK269.out⟩, ⟨by (with_reducible repeat (first | refine blk_drewN ?_ _ | refine blk_drew ?_ | refine blk_alloc ?_ _)); refine blk_put (cs := #[.int .i64 t270, .int .i64 t271, .int .i64 0]) ?_ 2 _ rfl; (with_reducible repeat (first | refine blk_drewN ?_ _ | refine blk_drew ?_ | refine blk_alloc ?_ _)); refine blk_put (cs := #[.int .i64 t270, .int .i64 0, .int .i64 0]) ?_ 1 _ rfl; (with_reducible repeat (first | refine blk_drewN ?_ _ | refine blk_drew ?_ | refine blk_alloc ?_ _)); refine blk_put (cs := #[.int .i64 0, .int .i64 0, .int .i64 0]) ?_ 0 _ rfl; (with_reducible repeat (first | refine blk_drewN ?_ _ | refine blk_drew ?_ | refine blk_alloc ?_ _)); exact BK274.out⟩, ⟨by repeat (first | (with_reducible first | exact HB.out | apply below_alloc | apply pw_below_drewN | apply below_drew1 | refine below_set ?_ GE263.out | refine below_set ?_ GE264.out | refine below_set ?_ GE269.out | refine below_set ?_ GE274.out) | exact HB.out)⟩⟩
    ·rw [if_neg c26] at H
     have c26b0 : (t275 == t273) = false := beq_eq_false_iff_ne.mpr c26
     have c26b1 : (t275 != t273) = true := bne_iff_ne.mpr c26
     (first | rw [c26b0] | (simp only [i64_w, i32_w]; rw [c26b0]) | rw [c26b2] | skip)
     exact absurd ((Option.some.inj H).trans HRT.out) (by decide)
   case rest =>
    clear HC8
    try clear c1
    try clear c2
    try clear p2
    try clear c5
    try clear c6
    try clear c6b0
    try clear c11
    try clear c15
    try clear c16
    try clear c21
    try clear c22
    try clear c23
    try clear c24
    try clear c26
    try clear c26b0
    try clear c26b1
    try clear c26b2
    try clear hcz12_0
    try clear hcz12_1
    try clear hcz12_2
    try clear hcz17_0
    try clear hcz17_1
    try clear hcz17_2
    try clear hcz18_0
    try clear hcz18_1
    try clear hcz18_2
    try clear hcz24_0
    try clear hcz24_1
    try clear hcz24_2
    try clear hcz25_0
    try clear hcz25_1
    try clear hcz25_2
    try clear hfz12_0
    try clear hfz12_1
    try clear hfz12_2
    try clear hfz17_0
    try clear hfz17_1
    try clear hfz17_2
    try clear hfz18_0
    try clear hfz18_1
    try clear hfz18_2
    try clear hfz24_0
    try clear hfz24_1
    try clear hfz24_2
    try clear hfz25_0
    try clear hfz25_1
    try clear hfz25_2
    obtain ⟨kq, HA, HJ7, BK263, BK264, BK269, BK274, HB⟩ := hcut
    cases kq with
    | zero => exact absurd HA.out (by simp [touchstonelaw05_SemverNexts.j0])
    | succ kj7 =>
     have H := HA.out
     clear HA
     simp only [touchstonelaw05_SemverNexts.j0] at H
     have HC27 := Aside0.mk H
     clear H
     go_upto_if 34 with (fail)
     go_cut [] (fun wc => ∃ (kq : Nat), Aside0 (touchstonelaw05_SemverNexts.j1 kq a1 a0_0 a0_1 a0_2 a2_0 a2_1 a2_2 t265 t266 t267 = some r) ∧ Aside0 (kq ≤ kj7) ∧ Aside0 (wc.heap[gb263]? = some (.cells #[.int .i64 a0_0, .int .i64 a0_1, .int .i64 a0_2] 23 (0, 0))) ∧ Aside0 (wc.heap[gb264]? = some (.cells #[.int .i64 a2_0, .int .i64 a2_1, .int .i64 a2_2] 23 (0, 0))) ∧ Aside0 (wc.heap[gb269]? = some (.cells #[.int .i64 t265, .int .i64 t266, .int .i64 t267] 23 (0, 0))) ∧ Aside0 (wc.heap[gb274]? = some (.cells #[.int .i64 t270, .int .i64 t271, .int .i64 t272] 23 (0, 0))) ∧ Aside0 (Below w.heap.size w wc))
     case first =>
      have H := HC27.out
      clear HC27
      by_cases c28 : t273 = 0
      ·rw [if_pos c28] at H
       have c28b0 : (t273 == 0) = true := beq_iff_eq.mpr c28
       have c28b1 : (t273 != 0) = false := bne_eq_false_iff_eq.mpr c28
       clear c28
       (first | rw [c28b0] | (simp only [i64_w, i32_w]; rw [c28b0]) | rw [c28b2] | skip)
       have H' := Aside0.mk H
       clear H
       go_wp2
       go_meet
       case rel => exact ⟨_, H', ⟨by have := HJ7.out; first | omega | exact Nat.le_refl _⟩, ⟨by (with_reducible repeat (first | refine blk_drewN ?_ _ | refine blk_drew ?_ | refine blk_alloc ?_ _)); exact BK263.out⟩, ⟨by (with_reducible repeat (first | refine blk_drewN ?_ _ | refine blk_drew ?_ | refine blk_alloc ?_ _)); exact BK264.out⟩, ⟨by (with_reducible repeat (first | refine blk_drewN ?_ _ | refine blk_drew ?_ | refine blk_alloc ?_ _)); exact BK269.out⟩, ⟨by (with_reducible repeat (first | refine blk_drewN ?_ _ | refine blk_drew ?_ | refine blk_alloc ?_ _)); exact BK274.out⟩, ⟨by repeat (first | (with_reducible first | exact HB.out | apply below_alloc | apply pw_below_drewN | apply below_drew1 | refine below_set ?_ GE263.out | refine below_set ?_ GE264.out | refine below_set ?_ GE269.out | refine below_set ?_ GE274.out) | exact HB.out)⟩⟩
      ·rw [if_neg c28] at H
       have c28b0 : (t273 == 0) = false := beq_eq_false_iff_ne.mpr c28
       have c28b1 : (t273 != 0) = true := bne_iff_ne.mpr c28
       (first | rw [c28b0] | (simp only [i64_w, i32_w]; rw [c28b0]) | rw [c28b2] | skip)
       by_cases c29 : (t265 == 0 && (t266 == 0 && (t267 == 0))) = true
       ·rw [if_pos c29] at H
        have c29b0 : (t265 == 0 && (t266 == 0 && (t267 == 0))) = true := c29
        (try (have c29b1 : decide (t265 = 0 && (t266 == 0 && (t267 == 0))) = true := by simpa using c29))
        (try (have c29b2 : (t265 == 0 && (t266 == 0 && (t267 == 0))) = true := by simpa using c29))
        clear c29
        replace H := Option.bind_eq_some_iff.mp H
        obtain ⟨t276, A300, H⟩ := H
        replace H : (some t276) = some r := H
        have A30 := Aside0.mk A300
        clear A300
        obtain rfl := Option.some.inj H
        have hnb31 := NB269_263.out
        have hnc31 := NB263_269.out
        have hnb32 := NB269_264.out
        have hnc32 := NB264_269.out
        have hnb33 := NB269_274.out
        have hnc33 := NB274_269.out
        have hcz34_0 : wc.cell? ⟨gb269, 0, none⟩ = some (.int .i64 t265) := (blk_cell BK269.out 0).trans rfl
        have hcz34_1 : wc.cell? ⟨gb269, 1, none⟩ = some (.int .i64 t266) := (blk_cell BK269.out 1).trans rfl
        have hcz34_2 : wc.cell? ⟨gb269, 2, none⟩ = some (.int .i64 t267) := (blk_cell BK269.out 2).trans rfl
        have hfz34_0 := blk_frozen BK269.out 0
        have hfz34_1 := blk_frozen BK269.out 1
        have hfz34_2 := blk_frozen BK269.out 2
        go_wp2_with (first | (go_at_call 7; (with_reducible refine (touchstonelaw05_alive.calls  t276 _ ?side1 A30.out).mono ?_); (case side1 => exact EnvOk.below HE.out (by repeat (first | (with_reducible first | exact HB.out | apply below_alloc | apply pw_below_drewN | apply below_drew1 | refine below_set ?_ GE263.out | refine below_set ?_ GE264.out | refine below_set ?_ GE269.out | refine below_set ?_ GE274.out) | exact HB.out))); rintro e w35 ⟨rfl, hb⟩; have n0_ := Aside0.mk (blk_below (g := gb263) (o := .cells #[.int .i64 a0_0, .int .i64 a0_1, .int .i64 a0_2] 23 (0, 0)) (by (with_reducible repeat (first | refine blk_drewN ?_ _ | refine blk_drew ?_ | refine blk_alloc ?_ _)); exact BK263.out) hb); have n1_ := Aside0.mk (blk_below (g := gb264) (o := .cells #[.int .i64 a2_0, .int .i64 a2_1, .int .i64 a2_2] 23 (0, 0)) (by (with_reducible repeat (first | refine blk_drewN ?_ _ | refine blk_drew ?_ | refine blk_alloc ?_ _)); exact BK264.out) hb); have n2_ := Aside0.mk (blk_below (g := gb269) (o := .cells #[.int .i64 t265, .int .i64 t266, .int .i64 t267] 23 (0, 0)) (by (with_reducible repeat (first | refine blk_drewN ?_ _ | refine blk_drew ?_ | refine blk_alloc ?_ _)); exact BK269.out) hb); have n3_ := Aside0.mk (blk_below (g := gb274) (o := .cells #[.int .i64 t270, .int .i64 t271, .int .i64 t272] 23 (0, 0)) (by (with_reducible repeat (first | refine blk_drewN ?_ _ | refine blk_drew ?_ | refine blk_alloc ?_ _)); exact BK274.out) hb); have n4_ := Aside0.mk (below_step (by repeat (first | (with_reducible first | exact HB.out | apply below_alloc | apply pw_below_drewN | apply below_drew1 | refine below_set ?_ GE263.out | refine below_set ?_ GE264.out | refine below_set ?_ GE269.out | refine below_set ?_ GE274.out) | exact HB.out)) hb); clear BK263; clear BK264; clear BK269; clear BK274; clear HB; have BK263 := n0_; have BK264 := n1_; have BK269 := n2_; have BK274 := n3_; have HB := n4_; clear n0_ n1_ n2_ n3_ n4_; (try clear hb); (try clear hb2); (try clear hk); (try clear hi)))
        go_ret
        exact ⟨by first | rfl | (simp [errW_none, errW_some] <;> rfl) | (simp [*, errW_none, errW_some] <;> rfl), by repeat (first | (with_reducible first | exact HB.out | apply below_alloc | apply pw_below_drewN | apply below_drew1 | refine below_set ?_ GE263.out | refine below_set ?_ GE264.out | refine below_set ?_ GE269.out | refine below_set ?_ GE274.out) | exact HB.out)⟩
       ·rw [if_neg c29] at H
        have c29b0 : (t265 == 0 && (t266 == 0 && (t267 == 0))) = false := by simpa using c29
        (try (have c29b1 : decide (t265 = 0 && (t266 == 0 && (t267 == 0))) = false := by simpa using c29))
        (try (have c29b2 : (t265 == 0 && (t266 == 0 && (t267 == 0))) = false := by simpa using c29))
        (try (have c29b3 : ¬ (t265 = 0 && (t266 == 0 && (t267 == 0))) := by simpa using c29))
        clear c29
        exact absurd ((Option.some.inj H).trans HRT.out) (by decide)
     case rest =>
      clear HC27
      try clear c1
      try clear c2
      try clear p2
      try clear c3
      try clear c5
      try clear c6
      try clear c6b0
      try clear c11
      try clear c15
      try clear c16
      try clear c21
      try clear c22
      try clear c23
      try clear c24
      try clear c26
      try clear c26b0
      try clear c26b1
      try clear c26b2
      try clear c28
      try clear c28b0
      try clear c28b1
      try clear c28b2
      try clear c29
      try clear c29b0
      try clear c29b1
      try clear c29b2
      try clear c31
      try clear c32
      try clear c33
      try clear hcz12_0
      try clear hcz12_1
      try clear hcz12_2
      try clear hcz17_0
      try clear hcz17_1
      try clear hcz17_2
      try clear hcz18_0
      try clear hcz18_1
      try clear hcz18_2
      try clear hcz24_0
      try clear hcz24_1
      try clear hcz24_2
      try clear hcz25_0
      try clear hcz25_1
      try clear hcz25_2
      try clear hcz34_0
      try clear hcz34_1
      try clear hcz34_2
      try clear hfz12_0
      try clear hfz12_1
      try clear hfz12_2
      try clear hfz17_0
      try clear hfz17_1
      try clear hfz17_2
      try clear hfz18_0
      try clear hfz18_1
      try clear hfz18_2
      try clear hfz24_0
      try clear hfz24_1
      try clear hfz24_2
      try clear hfz25_0
      try clear hfz25_1
      try clear hfz25_2
      try clear hfz34_0
      try clear hfz34_1
      try clear hfz34_2
      try clear p2
      obtain ⟨kq, HA, HJ26, BK263, BK264, BK269, BK274, HB⟩ := hcut
      cases kq with
      | zero => exact absurd HA.out (by simp [touchstonelaw05_SemverNexts.j1])
      | succ kj26 =>
       have H := HA.out
       clear HA
       simp only [touchstonelaw05_SemverNexts.j1] at H
       replace H := Option.bind_eq_some_iff.mp H
       obtain ⟨t277, A360, H⟩ := H
       replace H : (if t277 ≥ 0 then (some false) else ((semver_Gap.f a0_0 a0_1 a0_2 t265 t266 t267).bind fun t278 => (if t278 = a1 then ((semver_Right.f t265 t266 t267).bind fun t279 => (if t279 = true then (touchstonelaw05_SemverNexts.j2 kj26 a1 a0_0 a0_1 a0_2 a2_0 a2_1 a2_2 t265 t266 t267) else (some false))) else (some false)))) = some r := H
       have A36 := Aside0.mk A360
       clear A360
       by_cases c37 : t277 ≥ 0
       ·rw [if_pos c37] at H
        have c37b0 : decide (0 ≤ t277) = true := decide_eq_true c37
        clear c37
        exact absurd ((Option.some.inj H).trans HRT.out) (by decide)
       ·rw [if_neg c37] at H
        have c37b0 : decide (0 ≤ t277) = false := decide_eq_false c37
        clear c37
        replace H := Option.bind_eq_some_iff.mp H
        obtain ⟨t278, A380, H⟩ := H
        replace H : (if t278 = a1 then ((semver_Right.f t265 t266 t267).bind fun t279 => (if t279 = true then (touchstonelaw05_SemverNexts.j2 kj26 a1 a0_0 a0_1 a0_2 a2_0 a2_1 a2_2 t265 t266 t267) else (some false))) else (some false)) = some r := H
        have A38 := Aside0.mk A380
        clear A380
        by_cases c39 : t278 = a1
        ·rw [if_pos c39] at H
         have c39b0 : (t278 == a1) = true := beq_iff_eq.mpr c39
         have c39b1 : (t278 != a1) = false := bne_eq_false_iff_eq.mpr c39
         clear c39
         replace H := Option.bind_eq_some_iff.mp H
         obtain ⟨t279, A400, H⟩ := H
         replace H : (if t279 = true then (touchstonelaw05_SemverNexts.j2 kj26 a1 a0_0 a0_1 a0_2 a2_0 a2_1 a2_2 t265 t266 t267) else (some false)) = some r := H
         have A40 := Aside0.mk A400
         clear A400
         have HC41 := Aside0.mk H
         clear H
         have hnb42 := NB263_264.out
         have hnc42 := NB264_263.out
         have hnb43 := NB263_269.out
         have hnc43 := NB269_263.out
         have hnb44 := NB263_274.out
         have hnc44 := NB274_263.out
         have hcz45_0 : wc.cell? ⟨gb263, 0, none⟩ = some (.int .i64 a0_0) := (blk_cell BK263.out 0).trans rfl
         have hcz45_1 : wc.cell? ⟨gb263, 1, none⟩ = some (.int .i64 a0_1) := (blk_cell BK263.out 1).trans rfl
         have hcz45_2 : wc.cell? ⟨gb263, 2, none⟩ = some (.int .i64 a0_2) := (blk_cell BK263.out 2).trans rfl
         have hfz45_0 := blk_frozen BK263.out 0
         have hfz45_1 := blk_frozen BK263.out 1
         have hfz45_2 := blk_frozen BK263.out 2
         have hnb46 := NB269_264.out
         have hnc46 := NB264_269.out
         have hnb47 := NB269_274.out
         have hnc47 := NB274_269.out
         have hcz48_0 : wc.cell? ⟨gb269, 0, none⟩ = some (.int .i64 t265) := (blk_cell BK269.out 0).trans rfl
         have hcz48_1 : wc.cell? ⟨gb269, 1, none⟩ = some (.int .i64 t266) := (blk_cell BK269.out 1).trans rfl
         have hcz48_2 : wc.cell? ⟨gb269, 2, none⟩ = some (.int .i64 t267) := (blk_cell BK269.out 2).trans rfl
         have hfz48_0 := blk_frozen BK269.out 0
         have hfz48_1 := blk_frozen BK269.out 1
         have hfz48_2 := blk_frozen BK269.out 2
         go_upto_if 56 with (first | ((with_reducible refine gate_callee (f := 19) rfl ?_); refine goesL_ (some 43) rfl rfl Tryd.func19 (by kernel_rfl) rfl #[.agg #[.int .i64 a0_0, .int .i64 a0_1, .int .i64 a0_2], .agg #[.int .i64 t265, .int .i64 t266, .int .i64 t267]] rfl (by (try simp only [List.map_toArray, List.map_cons, List.map_nil]); first | done | rfl | (simp only [List.length_drop, List.length_take]; rfl)) ?_; (with_reducible refine (semver_Compare.calls kj26 a0_0 a0_1 a0_2 t265 t266 t267 t277 _ A36.out).mono ?_); rintro e w49 ⟨rfl, hb⟩; refine ⟨_, rfl, ?_⟩; have n0_ := Aside0.mk (blk_below (g := gb263) (o := .cells #[.int .i64 a0_0, .int .i64 a0_1, .int .i64 a0_2] 23 (0, 0)) (by (with_reducible repeat (first | refine blk_drewN ?_ _ | refine blk_drew ?_ | refine blk_alloc ?_ _)); exact BK263.out) hb); have n1_ := Aside0.mk (blk_below (g := gb264) (o := .cells #[.int .i64 a2_0, .int .i64 a2_1, .int .i64 a2_2] 23 (0, 0)) (by (with_reducible repeat (first | refine blk_drewN ?_ _ | refine blk_drew ?_ | refine blk_alloc ?_ _)); exact BK264.out) hb); have n2_ := Aside0.mk (blk_below (g := gb269) (o := .cells #[.int .i64 t265, .int .i64 t266, .int .i64 t267] 23 (0, 0)) (by (with_reducible repeat (first | refine blk_drewN ?_ _ | refine blk_drew ?_ | refine blk_alloc ?_ _)); exact BK269.out) hb); have n3_ := Aside0.mk (blk_below (g := gb274) (o := .cells #[.int .i64 t270, .int .i64 t271, .int .i64 t272] 23 (0, 0)) (by (with_reducible repeat (first | refine blk_drewN ?_ _ | refine blk_drew ?_ | refine blk_alloc ?_ _)); exact BK274.out) hb); have n4_ := Aside0.mk (below_step (by repeat (first | (with_reducible first | exact HB.out | apply below_alloc | apply pw_below_drewN | apply below_drew1 | refine below_set ?_ GE263.out | refine below_set ?_ GE264.out | refine below_set ?_ GE269.out | refine below_set ?_ GE274.out) | exact HB.out)) hb); clear BK263; clear BK264; clear BK269; clear BK274; clear HB; have BK263 := n0_; have BK264 := n1_; have BK269 := n2_; have BK274 := n3_; have HB := n4_; clear n0_ n1_ n2_ n3_ n4_; (try clear hb); (try clear hb2); (try clear hk); (try clear hi); have hcz50_0 : w49.cell? ⟨gb263, 0, none⟩ = some (.int .i64 a0_0) := (blk_cell BK263.out 0).trans rfl; have hcz50_1 : w49.cell? ⟨gb263, 1, none⟩ = some (.int .i64 a0_1) := (blk_cell BK263.out 1).trans rfl; have hcz50_2 : w49.cell? ⟨gb263, 2, none⟩ = some (.int .i64 a0_2) := (blk_cell BK263.out 2).trans rfl; have hfz50_0 := blk_frozen BK263.out 0; have hfz50_1 := blk_frozen BK263.out 1; have hfz50_2 := blk_frozen BK263.out 2; have hcz51_0 : w49.cell? ⟨gb269, 0, none⟩ = some (.int .i64 t265) := (blk_cell BK269.out 0).trans rfl; have hcz51_1 : w49.cell? ⟨gb269, 1, none⟩ = some (.int .i64 t266) := (blk_cell BK269.out 1).trans rfl; have hcz51_2 : w49.cell? ⟨gb269, 2, none⟩ = some (.int .i64 t267) := (blk_cell BK269.out 2).trans rfl; have hfz51_0 := blk_frozen BK269.out 0; have hfz51_1 := blk_frozen BK269.out 1; have hfz51_2 := blk_frozen BK269.out 2) | (go_at_call 21; (with_reducible refine (semver_Gap.calls a0_0 a0_1 a0_2 t265 t266 t267 t278 _ A38.out).mono ?_); rintro e w52 ⟨rfl, hb⟩; have n0_ := Aside0.mk (blk_below (g := gb263) (o := .cells #[.int .i64 a0_0, .int .i64 a0_1, .int .i64 a0_2] 23 (0, 0)) (by (with_reducible repeat (first | refine blk_drewN ?_ _ | refine blk_drew ?_ | refine blk_alloc ?_ _)); exact BK263.out) hb); have n1_ := Aside0.mk (blk_below (g := gb264) (o := .cells #[.int .i64 a2_0, .int .i64 a2_1, .int .i64 a2_2] 23 (0, 0)) (by (with_reducible repeat (first | refine blk_drewN ?_ _ | refine blk_drew ?_ | refine blk_alloc ?_ _)); exact BK264.out) hb); have n2_ := Aside0.mk (blk_below (g := gb269) (o := .cells #[.int .i64 t265, .int .i64 t266, .int .i64 t267] 23 (0, 0)) (by (with_reducible repeat (first | refine blk_drewN ?_ _ | refine blk_drew ?_ | refine blk_alloc ?_ _)); exact BK269.out) hb); have n3_ := Aside0.mk (blk_below (g := gb274) (o := .cells #[.int .i64 t270, .int .i64 t271, .int .i64 t272] 23 (0, 0)) (by (with_reducible repeat (first | refine blk_drewN ?_ _ | refine blk_drew ?_ | refine blk_alloc ?_ _)); exact BK274.out) hb); have n4_ := Aside0.mk (below_step (by repeat (first | (with_reducible first | exact HB.out | apply below_alloc | apply pw_below_drewN | apply below_drew1 | refine below_set ?_ GE263.out | refine below_set ?_ GE264.out | refine below_set ?_ GE269.out | refine below_set ?_ GE274.out) | exact HB.out)) hb); clear BK263; clear BK264; clear BK269; clear BK274; clear HB; have BK263 := n0_; have BK264 := n1_; have BK269 := n2_; have BK274 := n3_; have HB := n4_; clear n0_ n1_ n2_ n3_ n4_; (try clear hb); (try clear hb2); (try clear hk); (try clear hi); have hcz53_0 : w52.cell? ⟨gb269, 0, none⟩ = some (.int .i64 t265) := (blk_cell BK269.out 0).trans rfl; have hcz53_1 : w52.cell? ⟨gb269, 1, none⟩ = some (.int .i64 t266) := (blk_cell BK269.out 1).trans rfl; have hcz53_2 : w52.cell? ⟨gb269, 2, none⟩ = some (.int .i64 t267) := (blk_cell BK269.out 2).trans rfl; have hfz53_0 := blk_frozen BK269.out 0; have hfz53_1 := blk_frozen BK269.out 1; have hfz53_2 := blk_frozen BK269.out 2) | (go_at_call 15; (with_reducible refine (semver_Right.calls t265 t266 t267 t279 _ A40.out).mono ?_); rintro e w54 ⟨rfl, hb⟩; have n0_ := Aside0.mk (blk_below (g := gb263) (o := .cells #[.int .i64 a0_0, .int .i64 a0_1, .int .i64 a0_2] 23 (0, 0)) (by (with_reducible repeat (first | refine blk_drewN ?_ _ | refine blk_drew ?_ | refine blk_alloc ?_ _)); exact BK263.out) hb); have n1_ := Aside0.mk (blk_below (g := gb264) (o := .cells #[.int .i64 a2_0, .int .i64 a2_1, .int .i64 a2_2] 23 (0, 0)) (by (with_reducible repeat (first | refine blk_drewN ?_ _ | refine blk_drew ?_ | refine blk_alloc ?_ _)); exact BK264.out) hb); have n2_ := Aside0.mk (blk_below (g := gb269) (o := .cells #[.int .i64 t265, .int .i64 t266, .int .i64 t267] 23 (0, 0)) (by (with_reducible repeat (first | refine blk_drewN ?_ _ | refine blk_drew ?_ | refine blk_alloc ?_ _)); exact BK269.out) hb); have n3_ := Aside0.mk (blk_below (g := gb274) (o := .cells #[.int .i64 t270, .int .i64 t271, .int .i64 t272] 23 (0, 0)) (by (with_reducible repeat (first | refine blk_drewN ?_ _ | refine blk_drew ?_ | refine blk_alloc ?_ _)); exact BK274.out) hb); have n4_ := Aside0.mk (below_step (by repeat (first | (with_reducible first | exact HB.out | apply below_alloc | apply pw_below_drewN | apply below_drew1 | refine below_set ?_ GE263.out | refine below_set ?_ GE264.out | refine below_set ?_ GE269.out | refine below_set ?_ GE274.out) | exact HB.out)) hb); clear BK263; clear BK264; clear BK269; clear BK274; clear HB; have BK263 := n0_; have BK264 := n1_; have BK269 := n2_; have BK274 := n3_; have HB := n4_; clear n0_ n1_ n2_ n3_ n4_; (try clear hb); (try clear hb2); (try clear hk); (try clear hi)))
         (try simp only [Act.put, List.setIfInBounds_toArray, List.set_cons_zero, List.set_cons_succ])
         go_cut [] (fun wc => ∃ (kq : Nat), Aside0 (touchstonelaw05_SemverNexts.j2 kq a1 a0_0 a0_1 a0_2 a2_0 a2_1 a2_2 t265 t266 t267 = some r) ∧ Aside0 (kq ≤ kj26) ∧ Aside0 (wc.heap[gb263]? = some (.cells #[.int .i64 a0_0, .int .i64 a0_1, .int .i64 a0_2] 23 (0, 0))) ∧ Aside0 (wc.heap[gb264]? = some (.cells #[.int .i64 a2_0, .int .i64 a2_1, .int .i64 a2_2] 23 (0, 0))) ∧ Aside0 (wc.heap[gb269]? = some (.cells #[.int .i64 t265, .int .i64 t266, .int .i64 t267] 23 (0, 0))) ∧ Aside0 (wc.heap[gb274]? = some (.cells #[.int .i64 t270, .int .i64 t271, .int .i64 t272] 23 (0, 0))) ∧ Aside0 (Below w.heap.size w wc))
         case first =>
          have H := HC41.out
          clear HC41
          by_cases c55 : t279 = true
          ·subst c55
           have H1 : (touchstonelaw05_SemverNexts.j2 kj26 a1 a0_0 a0_1 a0_2 a2_0 a2_1 a2_2 t265 t266 t267) = some r := by rw [if_pos rfl] at H; exact H
           clear H
           have H := H1
           clear H1
           have H' := Aside0.mk H
           clear H
           go_wp2
           go_meet
           case rel => exact ⟨_, H', ⟨by have := HJ7.out; have := HJ26.out; first | omega | exact Nat.le_refl _⟩, ⟨by (with_reducible repeat (first | refine blk_drewN ?_ _ | refine blk_drew ?_ | refine blk_alloc ?_ _)); exact BK263.out⟩, ⟨by (with_reducible repeat (first | refine blk_drewN ?_ _ | refine blk_drew ?_ | refine blk_alloc ?_ _)); exact BK264.out⟩, ⟨by (with_reducible repeat (first | refine blk_drewN ?_ _ | refine blk_drew ?_ | refine blk_alloc ?_ _)); exact BK269.out⟩, ⟨by (with_reducible repeat (first | refine blk_drewN ?_ _ | refine blk_drew ?_ | refine blk_alloc ?_ _)); exact BK274.out⟩, ⟨by repeat (first | (with_reducible first | exact HB.out | apply below_alloc | apply pw_below_drewN | apply below_drew1 | refine below_set ?_ GE263.out | refine below_set ?_ GE264.out | refine below_set ?_ GE269.out | refine below_set ?_ GE274.out) | exact HB.out)⟩⟩
          ·replace c55 := Bool.eq_false_iff.mpr c55
           subst c55
           have H1 : (some false) = some r := by rw [if_neg (show ¬ (false = true) by decide)] at H; exact H
           clear H
           have H := H1
           clear H1
           exact absurd ((Option.some.inj H).trans HRT.out) (by decide)
         case rest =>
          clear HC41
          try clear c1
          try clear c2
          try clear p2
          try clear c3
          try clear c4
          try clear c5
          try clear c6
          try clear c6b0
          try clear c11
          try clear c15
          try clear c16
          try clear c19
          try clear c21
          try clear c22
          try clear c23
          try clear c24
          try clear c26
          try clear c26b0
          try clear c26b1
          try clear c26b2
          try clear c28
          try clear c28b0
          try clear c28b1
          try clear c28b2
          try clear c29
          try clear c29b0
          try clear c29b1
          try clear c29b2
          try clear c31
          try clear c32
          try clear c33
          try clear c37
          try clear c37b0
          try clear c39
          try clear c39b0
          try clear c39b1
          try clear c42
          try clear c43
          try clear c44
          try clear c46
          try clear c47
          try clear c55
          try clear hcz12_0
          try clear hcz12_1
          try clear hcz12_2
          try clear hcz17_0
          try clear hcz17_1
          try clear hcz17_2
          try clear hcz18_0
          try clear hcz18_1
          try clear hcz18_2
          try clear hcz24_0
          try clear hcz24_1
          try clear hcz24_2
          try clear hcz25_0
          try clear hcz25_1
          try clear hcz25_2
          try clear hcz34_0
          try clear hcz34_1
          try clear hcz34_2
          try clear hcz45_0
          try clear hcz45_1
          try clear hcz45_2
          try clear hcz48_0
          try clear hcz48_1
          try clear hcz48_2
          try clear hcz50_0
          try clear hcz50_1
          try clear hcz50_2
          try clear hcz51_0
          try clear hcz51_1
          try clear hcz51_2
          try clear hcz53_0
          try clear hcz53_1
          try clear hcz53_2
          try clear hfz12_0
          try clear hfz12_1
          try clear hfz12_2
          try clear hfz17_0
          try clear hfz17_1
          try clear hfz17_2
          try clear hfz18_0
          try clear hfz18_1
          try clear hfz18_2
          try clear hfz24_0
          try clear hfz24_1
          try clear hfz24_2
          try clear hfz25_0
          try clear hfz25_1
          try clear hfz25_2
          try clear hfz34_0
          try clear hfz34_1
          try clear hfz34_2
          try clear hfz45_0
          try clear hfz45_1
          try clear hfz45_2
          try clear hfz48_0
          try clear hfz48_1
          try clear hfz48_2
          try clear hfz50_0
          try clear hfz50_1
          try clear hfz50_2
          try clear hfz51_0
          try clear hfz51_1
          try clear hfz51_2
          try clear hfz53_0
          try clear hfz53_1
          try clear hfz53_2
          try clear p2
          obtain ⟨kq, HA, HJ40, BK263, BK264, BK269, BK274, HB⟩ := hcut
          cases kq with
          | zero => exact absurd HA.out (by simp [touchstonelaw05_SemverNexts.j2])
          | succ kj40 =>
           have H := HA.out
           clear HA
           simp only [touchstonelaw05_SemverNexts.j2] at H
           by_cases c56 : a1 = 1
           ·rw [if_pos c56] at H
            have c56b0 : (a1 == 1) = true := beq_iff_eq.mpr c56
            have c56b1 : (a1 != 1) = false := bne_eq_false_iff_eq.mpr c56
            clear c56
            replace H := Option.bind_eq_some_iff.mp H
            obtain ⟨t280, A570, H⟩ := H
            replace H : (if t280 = true then ((semver_Compare.f kj40 a0_0 a0_1 a0_2 a2_0 a2_1 a2_2).bind fun t281 => (if t281 < 0 then ((semver_Compare.f kj40 a2_0 a2_1 a2_2 t265 t266 t267).bind fun t282 => (if t282 < 0 then (some false) else ((touchstonelaw05_alive.f).bind fun t283 => (some t283)))) else ((touchstonelaw05_alive.f).bind fun t284 => (some t284)))) else ((touchstonelaw05_alive.f).bind fun t285 => (some t285))) = some r := H
            have A57 := Aside0.mk A570
            clear A570
            by_cases c58 : t280 = true
            ·subst c58
             have H1 : ((semver_Compare.f kj40 a0_0 a0_1 a0_2 a2_0 a2_1 a2_2).bind fun t281 => (if t281 < 0 then ((semver_Compare.f kj40 a2_0 a2_1 a2_2 t265 t266 t267).bind fun t282 => (if t282 < 0 then (some false) else ((touchstonelaw05_alive.f).bind fun t283 => (some t283)))) else ((touchstonelaw05_alive.f).bind fun t284 => (some t284)))) = some r := by rw [if_pos rfl] at H; exact H
             clear H
             have H := H1
             clear H1
             replace H := Option.bind_eq_some_iff.mp H
             obtain ⟨t281, A590, H⟩ := H
             replace H : (if t281 < 0 then ((semver_Compare.f kj40 a2_0 a2_1 a2_2 t265 t266 t267).bind fun t282 => (if t282 < 0 then (some false) else ((touchstonelaw05_alive.f).bind fun t283 => (some t283)))) else ((touchstonelaw05_alive.f).bind fun t284 => (some t284))) = some r := H
             have A59 := Aside0.mk A590
             clear A590
             by_cases c60 : t281 < 0
             ·rw [if_pos c60] at H
              have c60b0 : decide (t281 < 0) = true := decide_eq_true c60
              clear c60
              replace H := Option.bind_eq_some_iff.mp H
              obtain ⟨t282, A610, H⟩ := H
              replace H : (if t282 < 0 then (some false) else ((touchstonelaw05_alive.f).bind fun t283 => (some t283))) = some r := H
              have A61 := Aside0.mk A610
              clear A610
              by_cases c62 : t282 < 0
              ·rw [if_pos c62] at H
               have c62b0 : decide (t282 < 0) = true := decide_eq_true c62
               clear c62
               exact absurd ((Option.some.inj H).trans HRT.out) (by decide)
              ·rw [if_neg c62] at H
               have c62b0 : decide (t282 < 0) = false := decide_eq_false c62
               clear c62
               replace H := Option.bind_eq_some_iff.mp H
               obtain ⟨t283, A630, H⟩ := H
               replace H : (some t283) = some r := H
               have A63 := Aside0.mk A630
               clear A630
               obtain rfl := Option.some.inj H
               have hnb64 := NB264_263.out
               have hnc64 := NB263_264.out
               have hnb65 := NB264_269.out
               have hnc65 := NB269_264.out
               have hnb66 := NB264_274.out
               have hnc66 := NB274_264.out
               have hcz67_0 : wc.cell? ⟨gb264, 0, none⟩ = some (.int .i64 a2_0) := (blk_cell BK264.out 0).trans rfl
               have hcz67_1 : wc.cell? ⟨gb264, 1, none⟩ = some (.int .i64 a2_1) := (blk_cell BK264.out 1).trans rfl
               have hcz67_2 : wc.cell? ⟨gb264, 2, none⟩ = some (.int .i64 a2_2) := (blk_cell BK264.out 2).trans rfl
               have hfz67_0 := blk_frozen BK264.out 0
               have hfz67_1 := blk_frozen BK264.out 1
               have hfz67_2 := blk_frozen BK264.out 2
               go_wp2_with (first | (go_at_call 15; (with_reducible refine (semver_Right.calls a2_0 a2_1 a2_2 true _ A57.out).mono ?_); rintro e w68 ⟨rfl, hb⟩; have n0_ := Aside0.mk (blk_below (g := gb263) (o := .cells #[.int .i64 a0_0, .int .i64 a0_1, .int .i64 a0_2] 23 (0, 0)) (by (with_reducible repeat (first | refine blk_drewN ?_ _ | refine blk_drew ?_ | refine blk_alloc ?_ _)); exact BK263.out) hb); have n1_ := Aside0.mk (blk_below (g := gb264) (o := .cells #[.int .i64 a2_0, .int .i64 a2_1, .int .i64 a2_2] 23 (0, 0)) (by (with_reducible repeat (first | refine blk_drewN ?_ _ | refine blk_drew ?_ | refine blk_alloc ?_ _)); exact BK264.out) hb); have n2_ := Aside0.mk (blk_below (g := gb269) (o := .cells #[.int .i64 t265, .int .i64 t266, .int .i64 t267] 23 (0, 0)) (by (with_reducible repeat (first | refine blk_drewN ?_ _ | refine blk_drew ?_ | refine blk_alloc ?_ _)); exact BK269.out) hb); have n3_ := Aside0.mk (blk_below (g := gb274) (o := .cells #[.int .i64 t270, .int .i64 t271, .int .i64 t272] 23 (0, 0)) (by (with_reducible repeat (first | refine blk_drewN ?_ _ | refine blk_drew ?_ | refine blk_alloc ?_ _)); exact BK274.out) hb); have n4_ := Aside0.mk (below_step (by repeat (first | (with_reducible first | exact HB.out | apply below_alloc | apply pw_below_drewN | apply below_drew1 | refine below_set ?_ GE263.out | refine below_set ?_ GE264.out | refine below_set ?_ GE269.out | refine below_set ?_ GE274.out) | exact HB.out)) hb); clear BK263; clear BK264; clear BK269; clear BK274; clear HB; have BK263 := n0_; have BK264 := n1_; have BK269 := n2_; have BK274 := n3_; have HB := n4_; clear n0_ n1_ n2_ n3_ n4_; (try clear hb); (try clear hb2); (try clear hk); (try clear hi); have hnb69 := NB263_269.out; have hnc69 := NB269_263.out; have hnb70 := NB263_274.out; have hnc70 := NB274_263.out; have hcz71_0 : w68.cell? ⟨gb263, 0, none⟩ = some (.int .i64 a0_0) := (blk_cell BK263.out 0).trans rfl; have hcz71_1 : w68.cell? ⟨gb263, 1, none⟩ = some (.int .i64 a0_1) := (blk_cell BK263.out 1).trans rfl; have hcz71_2 : w68.cell? ⟨gb263, 2, none⟩ = some (.int .i64 a0_2) := (blk_cell BK263.out 2).trans rfl; have hfz71_0 := blk_frozen BK263.out 0; have hfz71_1 := blk_frozen BK263.out 1; have hfz71_2 := blk_frozen BK263.out 2; have hcz72_0 : w68.cell? ⟨gb264, 0, none⟩ = some (.int .i64 a2_0) := (blk_cell BK264.out 0).trans rfl; have hcz72_1 : w68.cell? ⟨gb264, 1, none⟩ = some (.int .i64 a2_1) := (blk_cell BK264.out 1).trans rfl; have hcz72_2 : w68.cell? ⟨gb264, 2, none⟩ = some (.int .i64 a2_2) := (blk_cell BK264.out 2).trans rfl; have hfz72_0 := blk_frozen BK264.out 0; have hfz72_1 := blk_frozen BK264.out 1; have hfz72_2 := blk_frozen BK264.out 2) | (go_at_call 19; (with_reducible refine (semver_Compare.calls kj40 a0_0 a0_1 a0_2 a2_0 a2_1 a2_2 t281 _ A59.out).mono ?_); rintro e w73 ⟨rfl, hb⟩; have n0_ := Aside0.mk (blk_below (g := gb263) (o := .cells #[.int .i64 a0_0, .int .i64 a0_1, .int .i64 a0_2] 23 (0, 0)) (by (with_reducible repeat (first | refine blk_drewN ?_ _ | refine blk_drew ?_ | refine blk_alloc ?_ _)); exact BK263.out) hb); have n1_ := Aside0.mk (blk_below (g := gb264) (o := .cells #[.int .i64 a2_0, .int .i64 a2_1, .int .i64 a2_2] 23 (0, 0)) (by (with_reducible repeat (first | refine blk_drewN ?_ _ | refine blk_drew ?_ | refine blk_alloc ?_ _)); exact BK264.out) hb); have n2_ := Aside0.mk (blk_below (g := gb269) (o := .cells #[.int .i64 t265, .int .i64 t266, .int .i64 t267] 23 (0, 0)) (by (with_reducible repeat (first | refine blk_drewN ?_ _ | refine blk_drew ?_ | refine blk_alloc ?_ _)); exact BK269.out) hb); have n3_ := Aside0.mk (blk_below (g := gb274) (o := .cells #[.int .i64 t270, .int .i64 t271, .int .i64 t272] 23 (0, 0)) (by (with_reducible repeat (first | refine blk_drewN ?_ _ | refine blk_drew ?_ | refine blk_alloc ?_ _)); exact BK274.out) hb); have n4_ := Aside0.mk (below_step (by repeat (first | (with_reducible first | exact HB.out | apply below_alloc | apply pw_below_drewN | apply below_drew1 | refine below_set ?_ GE263.out | refine below_set ?_ GE264.out | refine below_set ?_ GE269.out | refine below_set ?_ GE274.out) | exact HB.out)) hb); clear BK263; clear BK264; clear BK269; clear BK274; clear HB; have BK263 := n0_; have BK264 := n1_; have BK269 := n2_; have BK274 := n3_; have HB := n4_; clear n0_ n1_ n2_ n3_ n4_; (try clear hb); (try clear hb2); (try clear hk); (try clear hi); have hcz74_0 : w73.cell? ⟨gb264, 0, none⟩ = some (.int .i64 a2_0) := (blk_cell BK264.out 0).trans rfl; have hcz74_1 : w73.cell? ⟨gb264, 1, none⟩ = some (.int .i64 a2_1) := (blk_cell BK264.out 1).trans rfl; have hcz74_2 : w73.cell? ⟨gb264, 2, none⟩ = some (.int .i64 a2_2) := (blk_cell BK264.out 2).trans rfl; have hfz74_0 := blk_frozen BK264.out 0; have hfz74_1 := blk_frozen BK264.out 1; have hfz74_2 := blk_frozen BK264.out 2; have hnb75 := NB269_274.out; have hnc75 := NB274_269.out; have hcz76_0 : w73.cell? ⟨gb269, 0, none⟩ = some (.int .i64 t265) := (blk_cell BK269.out 0).trans rfl; have hcz76_1 : w73.cell? ⟨gb269, 1, none⟩ = some (.int .i64 t266) := (blk_cell BK269.out 1).trans rfl; have hcz76_2 : w73.cell? ⟨gb269, 2, none⟩ = some (.int .i64 t267) := (blk_cell BK269.out 2).trans rfl; have hfz76_0 := blk_frozen BK269.out 0; have hfz76_1 := blk_frozen BK269.out 1; have hfz76_2 := blk_frozen BK269.out 2) | (go_at_call 19; (with_reducible refine (semver_Compare.calls kj40 a2_0 a2_1 a2_2 t265 t266 t267 t282 _ A61.out).mono ?_); rintro e w77 ⟨rfl, hb⟩; have n0_ := Aside0.mk (blk_below (g := gb263) (o := .cells #[.int .i64 a0_0, .int .i64 a0_1, .int .i64 a0_2] 23 (0, 0)) (by (with_reducible repeat (first | refine blk_drewN ?_ _ | refine blk_drew ?_ | refine blk_alloc ?_ _)); exact BK263.out) hb); have n1_ := Aside0.mk (blk_below (g := gb264) (o := .cells #[.int .i64 a2_0, .int .i64 a2_1, .int .i64 a2_2] 23 (0, 0)) (by (with_reducible repeat (first | refine blk_drewN ?_ _ | refine blk_drew ?_ | refine blk_alloc ?_ _)); exact BK264.out) hb); have n2_ := Aside0.mk (blk_below (g := gb269) (o := .cells #[.int .i64 t265, .int .i64 t266, .int .i64 t267] 23 (0, 0)) (by (with_reducible repeat (first | refine blk_drewN ?_ _ | refine blk_drew ?_ | refine blk_alloc ?_ _)); exact BK269.out) hb); have n3_ := Aside0.mk (blk_below (g := gb274) (o := .cells #[.int .i64 t270, .int .i64 t271, .int .i64 t272] 23 (0, 0)) (by (with_reducible repeat (first | refine blk_drewN ?_ _ | refine blk_drew ?_ | refine blk_alloc ?_ _)); exact BK274.out) hb); have n4_ := Aside0.mk (below_step (by repeat (first | (with_reducible first | exact HB.out | apply below_alloc | apply pw_below_drewN | apply below_drew1 | refine below_set ?_ GE263.out | refine below_set ?_ GE264.out | refine below_set ?_ GE269.out | refine below_set ?_ GE274.out) | exact HB.out)) hb); clear BK263; clear BK264; clear BK269; clear BK274; clear HB; have BK263 := n0_; have BK264 := n1_; have BK269 := n2_; have BK274 := n3_; have HB := n4_; clear n0_ n1_ n2_ n3_ n4_; (try clear hb); (try clear hb2); (try clear hk); (try clear hi)) | (go_at_call 7; (with_reducible refine (touchstonelaw05_alive.calls  t283 _ ?side1 A63.out).mono ?_); (case side1 => exact EnvOk.below HE.out (by repeat (first | (with_reducible first | exact HB.out | apply below_alloc | apply pw_below_drewN | apply below_drew1 | refine below_set ?_ GE263.out | refine below_set ?_ GE264.out | refine below_set ?_ GE269.out | refine below_set ?_ GE274.out) | exact HB.out))); rintro e w78 ⟨rfl, hb⟩; have n0_ := Aside0.mk (blk_below (g := gb263) (o := .cells #[.int .i64 a0_0, .int .i64 a0_1, .int .i64 a0_2] 23 (0, 0)) (by (with_reducible repeat (first | refine blk_drewN ?_ _ | refine blk_drew ?_ | refine blk_alloc ?_ _)); exact BK263.out) hb); have n1_ := Aside0.mk (blk_below (g := gb264) (o := .cells #[.int .i64 a2_0, .int .i64 a2_1, .int .i64 a2_2] 23 (0, 0)) (by (with_reducible repeat (first | refine blk_drewN ?_ _ | refine blk_drew ?_ | refine blk_alloc ?_ _)); exact BK264.out) hb); have n2_ := Aside0.mk (blk_below (g := gb269) (o := .cells #[.int .i64 t265, .int .i64 t266, .int .i64 t267] 23 (0, 0)) (by (with_reducible repeat (first | refine blk_drewN ?_ _ | refine blk_drew ?_ | refine blk_alloc ?_ _)); exact BK269.out) hb); have n3_ := Aside0.mk (blk_below (g := gb274) (o := .cells #[.int .i64 t270, .int .i64 t271, .int .i64 t272] 23 (0, 0)) (by (with_reducible repeat (first | refine blk_drewN ?_ _ | refine blk_drew ?_ | refine blk_alloc ?_ _)); exact BK274.out) hb); have n4_ := Aside0.mk (below_step (by repeat (first | (with_reducible first | exact HB.out | apply below_alloc | apply pw_below_drewN | apply below_drew1 | refine below_set ?_ GE263.out | refine below_set ?_ GE264.out | refine below_set ?_ GE269.out | refine below_set ?_ GE274.out) | exact HB.out)) hb); clear BK263; clear BK264; clear BK269; clear BK274; clear HB; have BK263 := n0_; have BK264 := n1_; have BK269 := n2_; have BK274 := n3_; have HB := n4_; clear n0_ n1_ n2_ n3_ n4_; (try clear hb); (try clear hb2); (try clear hk); (try clear hi)))
               go_ret
               exact ⟨by first | rfl | (simp [errW_none, errW_some] <;> rfl) | (simp [*, errW_none, errW_some] <;> rfl), by repeat (first | (with_reducible first | exact HB.out | apply below_alloc | apply pw_below_drewN | apply below_drew1 | refine below_set ?_ GE263.out | refine below_set ?_ GE264.out | refine below_set ?_ GE269.out | refine below_set ?_ GE274.out) | exact HB.out)⟩
             ·rw [if_neg c60] at H
              have c60b0 : decide (t281 < 0) = false := decide_eq_false c60
              clear c60
              replace H := Option.bind_eq_some_iff.mp H
              obtain ⟨t284, A790, H⟩ := H
              replace H : (some t284) = some r := H
              have A79 := Aside0.mk A790
              clear A790
              obtain rfl := Option.some.inj H
              have hnb80 := NB264_263.out
              have hnc80 := NB263_264.out
              have hnb81 := NB264_269.out
              have hnc81 := NB269_264.out
              have hnb82 := NB264_274.out
              have hnc82 := NB274_264.out
              have hcz83_0 : wc.cell? ⟨gb264, 0, none⟩ = some (.int .i64 a2_0) := (blk_cell BK264.out 0).trans rfl
              have hcz83_1 : wc.cell? ⟨gb264, 1, none⟩ = some (.int .i64 a2_1) := (blk_cell BK264.out 1).trans rfl
              have hcz83_2 : wc.cell? ⟨gb264, 2, none⟩ = some (.int .i64 a2_2) := (blk_cell BK264.out 2).trans rfl
              have hfz83_0 := blk_frozen BK264.out 0
              have hfz83_1 := blk_frozen BK264.out 1
              have hfz83_2 := blk_frozen BK264.out 2
              go_wp2_with (first | (go_at_call 15; (with_reducible refine (semver_Right.calls a2_0 a2_1 a2_2 true _ A57.out).mono ?_); rintro e w84 ⟨rfl, hb⟩; have n0_ := Aside0.mk (blk_below (g := gb263) (o := .cells #[.int .i64 a0_0, .int .i64 a0_1, .int .i64 a0_2] 23 (0, 0)) (by (with_reducible repeat (first | refine blk_drewN ?_ _ | refine blk_drew ?_ | refine blk_alloc ?_ _)); exact BK263.out) hb); have n1_ := Aside0.mk (blk_below (g := gb264) (o := .cells #[.int .i64 a2_0, .int .i64 a2_1, .int .i64 a2_2] 23 (0, 0)) (by (with_reducible repeat (first | refine blk_drewN ?_ _ | refine blk_drew ?_ | refine blk_alloc ?_ _)); exact BK264.out) hb); have n2_ := Aside0.mk (blk_below (g := gb269) (o := .cells #[.int .i64 t265, .int .i64 t266, .int .i64 t267] 23 (0, 0)) (by (with_reducible repeat (first | refine blk_drewN ?_ _ | refine blk_drew ?_ | refine blk_alloc ?_ _)); exact BK269.out) hb); have n3_ := Aside0.mk (blk_below (g := gb274) (o := .cells #[.int .i64 t270, .int .i64 t271, .int .i64 t272] 23 (0, 0)) (by (with_reducible repeat (first | refine blk_drewN ?_ _ | refine blk_drew ?_ | refine blk_alloc ?_ _)); exact BK274.out) hb); have n4_ := Aside0.mk (below_step (by repeat (first | (with_reducible first | exact HB.out | apply below_alloc | apply pw_below_drewN | apply below_drew1 | refine below_set ?_ GE263.out | refine below_set ?_ GE264.out | refine below_set ?_ GE269.out | refine below_set ?_ GE274.out) | exact HB.out)) hb); clear BK263; clear BK264; clear BK269; clear BK274; clear HB; have BK263 := n0_; have BK264 := n1_; have BK269 := n2_; have BK274 := n3_; have HB := n4_; clear n0_ n1_ n2_ n3_ n4_; (try clear hb); (try clear hb2); (try clear hk); (try clear hi); have hnb85 := NB263_269.out; have hnc85 := NB269_263.out; have hnb86 := NB263_274.out; have hnc86 := NB274_263.out; have hcz87_0 : w84.cell? ⟨gb263, 0, none⟩ = some (.int .i64 a0_0) := (blk_cell BK263.out 0).trans rfl; have hcz87_1 : w84.cell? ⟨gb263, 1, none⟩ = some (.int .i64 a0_1) := (blk_cell BK263.out 1).trans rfl; have hcz87_2 : w84.cell? ⟨gb263, 2, none⟩ = some (.int .i64 a0_2) := (blk_cell BK263.out 2).trans rfl; have hfz87_0 := blk_frozen BK263.out 0; have hfz87_1 := blk_frozen BK263.out 1; have hfz87_2 := blk_frozen BK263.out 2; have hcz88_0 : w84.cell? ⟨gb264, 0, none⟩ = some (.int .i64 a2_0) := (blk_cell BK264.out 0).trans rfl; have hcz88_1 : w84.cell? ⟨gb264, 1, none⟩ = some (.int .i64 a2_1) := (blk_cell BK264.out 1).trans rfl; have hcz88_2 : w84.cell? ⟨gb264, 2, none⟩ = some (.int .i64 a2_2) := (blk_cell BK264.out 2).trans rfl; have hfz88_0 := blk_frozen BK264.out 0; have hfz88_1 := blk_frozen BK264.out 1; have hfz88_2 := blk_frozen BK264.out 2) | (go_at_call 19; (with_reducible refine (semver_Compare.calls kj40 a0_0 a0_1 a0_2 a2_0 a2_1 a2_2 t281 _ A59.out).mono ?_); rintro e w89 ⟨rfl, hb⟩; have n0_ := Aside0.mk (blk_below (g := gb263) (o := .cells #[.int .i64 a0_0, .int .i64 a0_1, .int .i64 a0_2] 23 (0, 0)) (by (with_reducible repeat (first | refine blk_drewN ?_ _ | refine blk_drew ?_ | refine blk_alloc ?_ _)); exact BK263.out) hb); have n1_ := Aside0.mk (blk_below (g := gb264) (o := .cells #[.int .i64 a2_0, .int .i64 a2_1, .int .i64 a2_2] 23 (0, 0)) (by (with_reducible repeat (first | refine blk_drewN ?_ _ | refine blk_drew ?_ | refine blk_alloc ?_ _)); exact BK264.out) hb); have n2_ := Aside0.mk (blk_below (g := gb269) (o := .cells #[.int .i64 t265, .int .i64 t266, .int .i64 t267] 23 (0, 0)) (by (with_reducible repeat (first | refine blk_drewN ?_ _ | refine blk_drew ?_ | refine blk_alloc ?_ _)); exact BK269.out) hb); have n3_ := Aside0.mk (blk_below (g := gb274) (o := .cells #[.int .i64 t270, .int .i64 t271, .int .i64 t272] 23 (0, 0)) (by (with_reducible repeat (first | refine blk_drewN ?_ _ | refine blk_drew ?_ | refine blk_alloc ?_ _)); exact BK274.out) hb); have n4_ := Aside0.mk (below_step (by repeat (first | (with_reducible first | exact HB.out | apply below_alloc | apply pw_below_drewN | apply below_drew1 | refine below_set ?_ GE263.out | refine below_set ?_ GE264.out | refine below_set ?_ GE269.out | refine below_set ?_ GE274.out) | exact HB.out)) hb); clear BK263; clear BK264; clear BK269; clear BK274; clear HB; have BK263 := n0_; have BK264 := n1_; have BK269 := n2_; have BK274 := n3_; have HB := n4_; clear n0_ n1_ n2_ n3_ n4_; (try clear hb); (try clear hb2); (try clear hk); (try clear hi)) | (go_at_call 7; (with_reducible refine (touchstonelaw05_alive.calls  t284 _ ?side1 A79.out).mono ?_); (case side1 => exact EnvOk.below HE.out (by repeat (first | (with_reducible first | exact HB.out | apply below_alloc | apply pw_below_drewN | apply below_drew1 | refine below_set ?_ GE263.out | refine below_set ?_ GE264.out | refine below_set ?_ GE269.out | refine below_set ?_ GE274.out) | exact HB.out))); rintro e w90 ⟨rfl, hb⟩; have n0_ := Aside0.mk (blk_below (g := gb263) (o := .cells #[.int .i64 a0_0, .int .i64 a0_1, .int .i64 a0_2] 23 (0, 0)) (by (with_reducible repeat (first | refine blk_drewN ?_ _ | refine blk_drew ?_ | refine blk_alloc ?_ _)); exact BK263.out) hb); have n1_ := Aside0.mk (blk_below (g := gb264) (o := .cells #[.int .i64 a2_0, .int .i64 a2_1, .int .i64 a2_2] 23 (0, 0)) (by (with_reducible repeat (first | refine blk_drewN ?_ _ | refine blk_drew ?_ | refine blk_alloc ?_ _)); exact BK264.out) hb); have n2_ := Aside0.mk (blk_below (g := gb269) (o := .cells #[.int .i64 t265, .int .i64 t266, .int .i64 t267] 23 (0, 0)) (by (with_reducible repeat (first | refine blk_drewN ?_ _ | refine blk_drew ?_ | refine blk_alloc ?_ _)); exact BK269.out) hb); have n3_ := Aside0.mk (blk_below (g := gb274) (o := .cells #[.int .i64 t270, .int .i64 t271, .int .i64 t272] 23 (0, 0)) (by (with_reducible repeat (first | refine blk_drewN ?_ _ | refine blk_drew ?_ | refine blk_alloc ?_ _)); exact BK274.out) hb); have n4_ := Aside0.mk (below_step (by repeat (first | (with_reducible first | exact HB.out | apply below_alloc | apply pw_below_drewN | apply below_drew1 | refine below_set ?_ GE263.out | refine below_set ?_ GE264.out | refine below_set ?_ GE269.out | refine below_set ?_ GE274.out) | exact HB.out)) hb); clear BK263; clear BK264; clear BK269; clear BK274; clear HB; have BK263 := n0_; have BK264 := n1_; have BK269 := n2_; have BK274 := n3_; have HB := n4_; clear n0_ n1_ n2_ n3_ n4_; (try clear hb); (try clear hb2); (try clear hk); (try clear hi)))
              go_ret
              exact ⟨by first | rfl | (simp [errW_none, errW_some] <;> rfl) | (simp [*, errW_none, errW_some] <;> rfl), by repeat (first | (with_reducible first | exact HB.out | apply below_alloc | apply pw_below_drewN | apply below_drew1 | refine below_set ?_ GE263.out | refine below_set ?_ GE264.out | refine below_set ?_ GE269.out | refine below_set ?_ GE274.out) | exact HB.out)⟩
            ·replace c58 := Bool.eq_false_iff.mpr c58
             subst c58
             have H1 : ((touchstonelaw05_alive.f).bind fun t285 => (some t285)) = some r := by rw [if_neg (show ¬ (false = true) by decide)] at H; exact H
             clear H
             have H := H1
             clear H1
             replace H := Option.bind_eq_some_iff.mp H
             obtain ⟨t285, A910, H⟩ := H
             replace H : (some t285) = some r := H
             have A91 := Aside0.mk A910
             clear A910
             obtain rfl := Option.some.inj H
             have hnb92 := NB264_263.out
             have hnc92 := NB263_264.out
             have hnb93 := NB264_269.out
             have hnc93 := NB269_264.out
             have hnb94 := NB264_274.out
             have hnc94 := NB274_264.out
             have hcz95_0 : wc.cell? ⟨gb264, 0, none⟩ = some (.int .i64 a2_0) := (blk_cell BK264.out 0).trans rfl
             have hcz95_1 : wc.cell? ⟨gb264, 1, none⟩ = some (.int .i64 a2_1) := (blk_cell BK264.out 1).trans rfl
             have hcz95_2 : wc.cell? ⟨gb264, 2, none⟩ = some (.int .i64 a2_2) := (blk_cell BK264.out 2).trans rfl
             have hfz95_0 := blk_frozen BK264.out 0
             have hfz95_1 := blk_frozen BK264.out 1
             have hfz95_2 := blk_frozen BK264.out 2
             go_wp2_with (first | (go_at_call 15; (with_reducible refine (semver_Right.calls a2_0 a2_1 a2_2 false _ A57.out).mono ?_); rintro e w96 ⟨rfl, hb⟩; have n0_ := Aside0.mk (blk_below (g := gb263) (o := .cells #[.int .i64 a0_0, .int .i64 a0_1, .int .i64 a0_2] 23 (0, 0)) (by (with_reducible repeat (first | refine blk_drewN ?_ _ | refine blk_drew ?_ | refine blk_alloc ?_ _)); exact BK263.out) hb); have n1_ := Aside0.mk (blk_below (g := gb264) (o := .cells #[.int .i64 a2_0, .int .i64 a2_1, .int .i64 a2_2] 23 (0, 0)) (by (with_reducible repeat (first | refine blk_drewN ?_ _ | refine blk_drew ?_ | refine blk_alloc ?_ _)); exact BK264.out) hb); have n2_ := Aside0.mk (blk_below (g := gb269) (o := .cells #[.int .i64 t265, .int .i64 t266, .int .i64 t267] 23 (0, 0)) (by (with_reducible repeat (first | refine blk_drewN ?_ _ | refine blk_drew ?_ | refine blk_alloc ?_ _)); exact BK269.out) hb); have n3_ := Aside0.mk (blk_below (g := gb274) (o := .cells #[.int .i64 t270, .int .i64 t271, .int .i64 t272] 23 (0, 0)) (by (with_reducible repeat (first | refine blk_drewN ?_ _ | refine blk_drew ?_ | refine blk_alloc ?_ _)); exact BK274.out) hb); have n4_ := Aside0.mk (below_step (by repeat (first | (with_reducible first | exact HB.out | apply below_alloc | apply pw_below_drewN | apply below_drew1 | refine below_set ?_ GE263.out | refine below_set ?_ GE264.out | refine below_set ?_ GE269.out | refine below_set ?_ GE274.out) | exact HB.out)) hb); clear BK263; clear BK264; clear BK269; clear BK274; clear HB; have BK263 := n0_; have BK264 := n1_; have BK269 := n2_; have BK274 := n3_; have HB := n4_; clear n0_ n1_ n2_ n3_ n4_; (try clear hb); (try clear hb2); (try clear hk); (try clear hi)) | (go_at_call 7; (with_reducible refine (touchstonelaw05_alive.calls  t285 _ ?side1 A91.out).mono ?_); (case side1 => exact EnvOk.below HE.out (by repeat (first | (with_reducible first | exact HB.out | apply below_alloc | apply pw_below_drewN | apply below_drew1 | refine below_set ?_ GE263.out | refine below_set ?_ GE264.out | refine below_set ?_ GE269.out | refine below_set ?_ GE274.out) | exact HB.out))); rintro e w97 ⟨rfl, hb⟩; have n0_ := Aside0.mk (blk_below (g := gb263) (o := .cells #[.int .i64 a0_0, .int .i64 a0_1, .int .i64 a0_2] 23 (0, 0)) (by (with_reducible repeat (first | refine blk_drewN ?_ _ | refine blk_drew ?_ | refine blk_alloc ?_ _)); exact BK263.out) hb); have n1_ := Aside0.mk (blk_below (g := gb264) (o := .cells #[.int .i64 a2_0, .int .i64 a2_1, .int .i64 a2_2] 23 (0, 0)) (by (with_reducible repeat (first | refine blk_drewN ?_ _ | refine blk_drew ?_ | refine blk_alloc ?_ _)); exact BK264.out) hb); have n2_ := Aside0.mk (blk_below (g := gb269) (o := .cells #[.int .i64 t265, .int .i64 t266, .int .i64 t267] 23 (0, 0)) (by (with_reducible repeat (first | refine blk_drewN ?_ _ | refine blk_drew ?_ | refine blk_alloc ?_ _)); exact BK269.out) hb); have n3_ := Aside0.mk (blk_below (g := gb274) (o := .cells #[.int .i64 t270, .int .i64 t271, .int .i64 t272] 23 (0, 0)) (by (with_reducible repeat (first | refine blk_drewN ?_ _ | refine blk_drew ?_ | refine blk_alloc ?_ _)); exact BK274.out) hb); have n4_ := Aside0.mk (below_step (by repeat (first | (with_reducible first | exact HB.out | apply below_alloc | apply pw_below_drewN | apply below_drew1 | refine below_set ?_ GE263.out | refine below_set ?_ GE264.out | refine below_set ?_ GE269.out | refine below_set ?_ GE274.out) | exact HB.out)) hb); clear BK263; clear BK264; clear BK269; clear BK274; clear HB; have BK263 := n0_; have BK264 := n1_; have BK269 := n2_; have BK274 := n3_; have HB := n4_; clear n0_ n1_ n2_ n3_ n4_; (try clear hb); (try clear hb2); (try clear hk); (try clear hi)))
             go_ret
             exact ⟨by first | rfl | (simp [errW_none, errW_some] <;> rfl) | (simp [*, errW_none, errW_some] <;> rfl), by repeat (first | (with_reducible first | exact HB.out | apply below_alloc | apply pw_below_drewN | apply below_drew1 | refine below_set ?_ GE263.out | refine below_set ?_ GE264.out | refine below_set ?_ GE269.out | refine below_set ?_ GE274.out) | exact HB.out)⟩
           ·rw [if_neg c56] at H
            have c56b0 : (a1 == 1) = false := beq_eq_false_iff_ne.mpr c56
            have c56b1 : (a1 != 1) = true := bne_iff_ne.mpr c56
            by_cases c98 : a2_2 = 0
            ·rw [if_pos c98] at H
             have c98b0 : (a2_2 == 0) = true := beq_iff_eq.mpr c98
             have c98b1 : (a2_2 != 0) = false := bne_eq_false_iff_eq.mpr c98
             clear c98
             by_cases c99 : a1 = 2
             ·rw [if_pos c99] at H
              have c99b0 : (a1 == 2) = true := beq_iff_eq.mpr c99
              have c99b1 : (a1 != 2) = false := bne_eq_false_iff_eq.mpr c99
              clear c99
              replace H := Option.bind_eq_some_iff.mp H
              obtain ⟨t286, A1000, H⟩ := H
              replace H : (if t286 = true then ((semver_Compare.f kj40 a0_0 a0_1 a0_2 a2_0 a2_1 a2_2).bind fun t287 => (if t287 < 0 then ((semver_Compare.f kj40 a2_0 a2_1 a2_2 t265 t266 t267).bind fun t288 => (if t288 < 0 then (some false) else ((touchstonelaw05_alive.f).bind fun t289 => (some t289)))) else ((touchstonelaw05_alive.f).bind fun t290 => (some t290)))) else ((touchstonelaw05_alive.f).bind fun t291 => (some t291))) = some r := H
              have A100 := Aside0.mk A1000
              clear A1000
              by_cases c101 : t286 = true
              ·subst c101
               have H1 : ((semver_Compare.f kj40 a0_0 a0_1 a0_2 a2_0 a2_1 a2_2).bind fun t287 => (if t287 < 0 then ((semver_Compare.f kj40 a2_0 a2_1 a2_2 t265 t266 t267).bind fun t288 => (if t288 < 0 then (some false) else ((touchstonelaw05_alive.f).bind fun t289 => (some t289)))) else ((touchstonelaw05_alive.f).bind fun t290 => (some t290)))) = some r := by rw [if_pos rfl] at H; exact H
               clear H
               have H := H1
               clear H1
               replace H := Option.bind_eq_some_iff.mp H
               obtain ⟨t287, A1020, H⟩ := H
               replace H : (if t287 < 0 then ((semver_Compare.f kj40 a2_0 a2_1 a2_2 t265 t266 t267).bind fun t288 => (if t288 < 0 then (some false) else ((touchstonelaw05_alive.f).bind fun t289 => (some t289)))) else ((touchstonelaw05_alive.f).bind fun t290 => (some t290))) = some r := H
               have A102 := Aside0.mk A1020
               clear A1020
               by_cases c103 : t287 < 0
               ·rw [if_pos c103] at H
                have c103b0 : decide (t287 < 0) = true := decide_eq_true c103
                clear c103
                replace H := Option.bind_eq_some_iff.mp H
                obtain ⟨t288, A1040, H⟩ := H
                replace H : (if t288 < 0 then (some false) else ((touchstonelaw05_alive.f).bind fun t289 => (some t289))) = some r := H
                have A104 := Aside0.mk A1040
                clear A1040
                by_cases c105 : t288 < 0
                ·rw [if_pos c105] at H
                 have c105b0 : decide (t288 < 0) = true := decide_eq_true c105
                 clear c105
                 exact absurd ((Option.some.inj H).trans HRT.out) (by decide)
                ·rw [if_neg c105] at H
                 have c105b0 : decide (t288 < 0) = false := decide_eq_false c105
                 clear c105
                 replace H := Option.bind_eq_some_iff.mp H
                 obtain ⟨t289, A1060, H⟩ := H
                 replace H : (some t289) = some r := H
                 have A106 := Aside0.mk A1060
                 clear A1060
                 obtain rfl := Option.some.inj H
                 have hnb107 := NB264_263.out
                 have hnc107 := NB263_264.out
                 have hnb108 := NB264_269.out
                 have hnc108 := NB269_264.out
                 have hnb109 := NB264_274.out
                 have hnc109 := NB274_264.out
                 have hcz110_0 : wc.cell? ⟨gb264, 0, none⟩ = some (.int .i64 a2_0) := (blk_cell BK264.out 0).trans rfl
                 have hcz110_1 : wc.cell? ⟨gb264, 1, none⟩ = some (.int .i64 a2_1) := (blk_cell BK264.out 1).trans rfl
                 have hcz110_2 : wc.cell? ⟨gb264, 2, none⟩ = some (.int .i64 a2_2) := (blk_cell BK264.out 2).trans rfl
                 have hfz110_0 := blk_frozen BK264.out 0
                 have hfz110_1 := blk_frozen BK264.out 1
                 have hfz110_2 := blk_frozen BK264.out 2
                 go_wp2_with (first | (go_at_call 15; (with_reducible refine (semver_Right.calls a2_0 a2_1 a2_2 true _ A100.out).mono ?_); rintro e w111 ⟨rfl, hb⟩; have n0_ := Aside0.mk (blk_below (g := gb263) (o := .cells #[.int .i64 a0_0, .int .i64 a0_1, .int .i64 a0_2] 23 (0, 0)) (by (with_reducible repeat (first | refine blk_drewN ?_ _ | refine blk_drew ?_ | refine blk_alloc ?_ _)); exact BK263.out) hb); have n1_ := Aside0.mk (blk_below (g := gb264) (o := .cells #[.int .i64 a2_0, .int .i64 a2_1, .int .i64 a2_2] 23 (0, 0)) (by (with_reducible repeat (first | refine blk_drewN ?_ _ | refine blk_drew ?_ | refine blk_alloc ?_ _)); exact BK264.out) hb); have n2_ := Aside0.mk (blk_below (g := gb269) (o := .cells #[.int .i64 t265, .int .i64 t266, .int .i64 t267] 23 (0, 0)) (by (with_reducible repeat (first | refine blk_drewN ?_ _ | refine blk_drew ?_ | refine blk_alloc ?_ _)); exact BK269.out) hb); have n3_ := Aside0.mk (blk_below (g := gb274) (o := .cells #[.int .i64 t270, .int .i64 t271, .int .i64 t272] 23 (0, 0)) (by (with_reducible repeat (first | refine blk_drewN ?_ _ | refine blk_drew ?_ | refine blk_alloc ?_ _)); exact BK274.out) hb); have n4_ := Aside0.mk (below_step (by repeat (first | (with_reducible first | exact HB.out | apply below_alloc | apply pw_below_drewN | apply below_drew1 | refine below_set ?_ GE263.out | refine below_set ?_ GE264.out | refine below_set ?_ GE269.out | refine below_set ?_ GE274.out) | exact HB.out)) hb); clear BK263; clear BK264; clear BK269; clear BK274; clear HB; have BK263 := n0_; have BK264 := n1_; have BK269 := n2_; have BK274 := n3_; have HB := n4_; clear n0_ n1_ n2_ n3_ n4_; (try clear hb); (try clear hb2); (try clear hk); (try clear hi); have hnb112 := NB263_269.out; have hnc112 := NB269_263.out; have hnb113 := NB263_274.out; have hnc113 := NB274_263.out; have hcz114_0 : w111.cell? ⟨gb263, 0, none⟩ = some (.int .i64 a0_0) := (blk_cell BK263.out 0).trans rfl; have hcz114_1 : w111.cell? ⟨gb263, 1, none⟩ = some (.int .i64 a0_1) := (blk_cell BK263.out 1).trans rfl; have hcz114_2 : w111.cell? ⟨gb263, 2, none⟩ = some (.int .i64 a0_2) := (blk_cell BK263.out 2).trans rfl; have hfz114_0 := blk_frozen BK263.out 0; have hfz114_1 := blk_frozen BK263.out 1; have hfz114_2 := blk_frozen BK263.out 2; have hcz115_0 : w111.cell? ⟨gb264, 0, none⟩ = some (.int .i64 a2_0) := (blk_cell BK264.out 0).trans rfl; have hcz115_1 : w111.cell? ⟨gb264, 1, none⟩ = some (.int .i64 a2_1) := (blk_cell BK264.out 1).trans rfl; have hcz115_2 : w111.cell? ⟨gb264, 2, none⟩ = some (.int .i64 a2_2) := (blk_cell BK264.out 2).trans rfl; have hfz115_0 := blk_frozen BK264.out 0; have hfz115_1 := blk_frozen BK264.out 1; have hfz115_2 := blk_frozen BK264.out 2) | (go_at_call 19; (with_reducible refine (semver_Compare.calls kj40 a0_0 a0_1 a0_2 a2_0 a2_1 a2_2 t287 _ A102.out).mono ?_); rintro e w116 ⟨rfl, hb⟩; have n0_ := Aside0.mk (blk_below (g := gb263) (o := .cells #[.int .i64 a0_0, .int .i64 a0_1, .int .i64 a0_2] 23 (0, 0)) (by (with_reducible repeat (first | refine blk_drewN ?_ _ | refine blk_drew ?_ | refine blk_alloc ?_ _)); exact BK263.out) hb); have n1_ := Aside0.mk (blk_below (g := gb264) (o := .cells #[.int .i64 a2_0, .int .i64 a2_1, .int .i64 a2_2] 23 (0, 0)) (by (with_reducible repeat (first | refine blk_drewN ?_ _ | refine blk_drew ?_ | refine blk_alloc ?_ _)); exact BK264.out) hb); have n2_ := Aside0.mk (blk_below (g := gb269) (o := .cells #[.int .i64 t265, .int .i64 t266, .int .i64 t267] 23 (0, 0)) (by (with_reducible repeat (first | refine blk_drewN ?_ _ | refine blk_drew ?_ | refine blk_alloc ?_ _)); exact BK269.out) hb); have n3_ := Aside0.mk (blk_below (g := gb274) (o := .cells #[.int .i64 t270, .int .i64 t271, .int .i64 t272] 23 (0, 0)) (by (with_reducible repeat (first | refine blk_drewN ?_ _ | refine blk_drew ?_ | refine blk_alloc ?_ _)); exact BK274.out) hb); have n4_ := Aside0.mk (below_step (by repeat (first | (with_reducible first | exact HB.out | apply below_alloc | apply pw_below_drewN | apply below_drew1 | refine below_set ?_ GE263.out | refine below_set ?_ GE264.out | refine below_set ?_ GE269.out | refine below_set ?_ GE274.out) | exact HB.out)) hb); clear BK263; clear BK264; clear BK269; clear BK274; clear HB; have BK263 := n0_; have BK264 := n1_; have BK269 := n2_; have BK274 := n3_; have HB := n4_; clear n0_ n1_ n2_ n3_ n4_; (try clear hb); (try clear hb2); (try clear hk); (try clear hi); have hcz117_0 : w116.cell? ⟨gb264, 0, none⟩ = some (.int .i64 a2_0) := (blk_cell BK264.out 0).trans rfl; have hcz117_1 : w116.cell? ⟨gb264, 1, none⟩ = some (.int .i64 a2_1) := (blk_cell BK264.out 1).trans rfl; have hcz117_2 : w116.cell? ⟨gb264, 2, none⟩ = some (.int .i64 a2_2) := (blk_cell BK264.out 2).trans rfl; have hfz117_0 := blk_frozen BK264.out 0; have hfz117_1 := blk_frozen BK264.out 1; have hfz117_2 := blk_frozen BK264.out 2; have hnb118 := NB269_274.out; have hnc118 := NB274_269.out; have hcz119_0 : w116.cell? ⟨gb269, 0, none⟩ = some (.int .i64 t265) := (blk_cell BK269.out 0).trans rfl; have hcz119_1 : w116.cell? ⟨gb269, 1, none⟩ = some (.int .i64 t266) := (blk_cell BK269.out 1).trans rfl; have hcz119_2 : w116.cell? ⟨gb269, 2, none⟩ = some (.int .i64 t267) := (blk_cell BK269.out 2).trans rfl; have hfz119_0 := blk_frozen BK269.out 0; have hfz119_1 := blk_frozen BK269.out 1; have hfz119_2 := blk_frozen BK269.out 2) | (go_at_call 19; (with_reducible refine (semver_Compare.calls kj40 a2_0 a2_1 a2_2 t265 t266 t267 t288 _ A104.out).mono ?_); rintro e w120 ⟨rfl, hb⟩; have n0_ := Aside0.mk (blk_below (g := gb263) (o := .cells #[.int .i64 a0_0, .int .i64 a0_1, .int .i64 a0_2] 23 (0, 0)) (by (with_reducible repeat (first | refine blk_drewN ?_ _ | refine blk_drew ?_ | refine blk_alloc ?_ _)); exact BK263.out) hb); have n1_ := Aside0.mk (blk_below (g := gb264) (o := .cells #[.int .i64 a2_0, .int .i64 a2_1, .int .i64 a2_2] 23 (0, 0)) (by (with_reducible repeat (first | refine blk_drewN ?_ _ | refine blk_drew ?_ | refine blk_alloc ?_ _)); exact BK264.out) hb); have n2_ := Aside0.mk (blk_below (g := gb269) (o := .cells #[.int .i64 t265, .int .i64 t266, .int .i64 t267] 23 (0, 0)) (by (with_reducible repeat (first | refine blk_drewN ?_ _ | refine blk_drew ?_ | refine blk_alloc ?_ _)); exact BK269.out) hb); have n3_ := Aside0.mk (blk_below (g := gb274) (o := .cells #[.int .i64 t270, .int .i64 t271, .int .i64 t272] 23 (0, 0)) (by (with_reducible repeat (first | refine blk_drewN ?_ _ | refine blk_drew ?_ | refine blk_alloc ?_ _)); exact BK274.out) hb); have n4_ := Aside0.mk (below_step (by repeat (first | (with_reducible first | exact HB.out | apply below_alloc | apply pw_below_drewN | apply below_drew1 | refine below_set ?_ GE263.out | refine below_set ?_ GE264.out | refine below_set ?_ GE269.out | refine below_set ?_ GE274.out) | exact HB.out)) hb); clear BK263; clear BK264; clear BK269; clear BK274; clear HB; have BK263 := n0_; have BK264 := n1_; have BK269 := n2_; have BK274 := n3_; have HB := n4_; clear n0_ n1_ n2_ n3_ n4_; (try clear hb); (try clear hb2); (try clear hk); (try clear hi)) | (go_at_call 7; (with_reducible refine (touchstonelaw05_alive.calls  t289 _ ?side1 A106.out).mono ?_); (case side1 => exact EnvOk.below HE.out (by repeat (first | (with_reducible first | exact HB.out | apply below_alloc | apply pw_below_drewN | apply below_drew1 | refine below_set ?_ GE263.out | refine below_set ?_ GE264.out | refine below_set ?_ GE269.out | refine below_set ?_ GE274.out) | exact HB.out))); rintro e w121 ⟨rfl, hb⟩; have n0_ := Aside0.mk (blk_below (g := gb263) (o := .cells #[.int .i64 a0_0, .int .i64 a0_1, .int .i64 a0_2] 23 (0, 0)) (by (with_reducible repeat (first | refine blk_drewN ?_ _ | refine blk_drew ?_ | refine blk_alloc ?_ _)); exact BK263.out) hb); have n1_ := Aside0.mk (blk_below (g := gb264) (o := .cells #[.int .i64 a2_0, .int .i64 a2_1, .int .i64 a2_2] 23 (0, 0)) (by (with_reducible repeat (first | refine blk_drewN ?_ _ | refine blk_drew ?_ | refine blk_alloc ?_ _)); exact BK264.out) hb); have n2_ := Aside0.mk (blk_below (g := gb269) (o := .cells #[.int .i64 t265, .int .i64 t266, .int .i64 t267] 23 (0, 0)) (by (with_reducible repeat (first | refine blk_drewN ?_ _ | refine blk_drew ?_ | refine blk_alloc ?_ _)); exact BK269.out) hb); have n3_ := Aside0.mk (blk_below (g := gb274) (o := .cells #[.int .i64 t270, .int .i64 t271, .int .i64 t272] 23 (0, 0)) (by (with_reducible repeat (first | refine blk_drewN ?_ _ | refine blk_drew ?_ | refine blk_alloc ?_ _)); exact BK274.out) hb); have n4_ := Aside0.mk (below_step (by repeat (first | (with_reducible first | exact HB.out | apply below_alloc | apply pw_below_drewN | apply below_drew1 | refine below_set ?_ GE263.out | refine below_set ?_ GE264.out | refine below_set ?_ GE269.out | refine below_set ?_ GE274.out) | exact HB.out)) hb); clear BK263; clear BK264; clear BK269; clear BK274; clear HB; have BK263 := n0_; have BK264 := n1_; have BK269 := n2_; have BK274 := n3_; have HB := n4_; clear n0_ n1_ n2_ n3_ n4_; (try clear hb); (try clear hb2); (try clear hk); (try clear hi)))
                 go_ret
                 exact ⟨by first | rfl | (simp [errW_none, errW_some] <;> rfl) | (simp [*, errW_none, errW_some] <;> rfl), by repeat (first | (with_reducible first | exact HB.out | apply below_alloc | apply pw_below_drewN | apply below_drew1 | refine below_set ?_ GE263.out | refine below_set ?_ GE264.out | refine below_set ?_ GE269.out | refine below_set ?_ GE274.out) | exact HB.out)⟩
               ·rw [if_neg c103] at H
                have c103b0 : decide (t287 < 0) = false := decide_eq_false c103
                clear c103
                replace H := Option.bind_eq_some_iff.mp H
                obtain ⟨t290, A1220, H⟩ := H
                replace H : (some t290) = some r := H
                have A122 := Aside0.mk A1220
                clear A1220
                obtain rfl := Option.some.inj H
                have hnb123 := NB264_263.out
                have hnc123 := NB263_264.out
                have hnb124 := NB264_269.out
                have hnc124 := NB269_264.out
                have hnb125 := NB264_274.out
                have hnc125 := NB274_264.out
                have hcz126_0 : wc.cell? ⟨gb264, 0, none⟩ = some (.int .i64 a2_0) := (blk_cell BK264.out 0).trans rfl
                have hcz126_1 : wc.cell? ⟨gb264, 1, none⟩ = some (.int .i64 a2_1) := (blk_cell BK264.out 1).trans rfl
                have hcz126_2 : wc.cell? ⟨gb264, 2, none⟩ = some (.int .i64 a2_2) := (blk_cell BK264.out 2).trans rfl
                have hfz126_0 := blk_frozen BK264.out 0
                have hfz126_1 := blk_frozen BK264.out 1
                have hfz126_2 := blk_frozen BK264.out 2
                go_wp2_with (first | (go_at_call 15; (with_reducible refine (semver_Right.calls a2_0 a2_1 a2_2 true _ A100.out).mono ?_); rintro e w127 ⟨rfl, hb⟩; have n0_ := Aside0.mk (blk_below (g := gb263) (o := .cells #[.int .i64 a0_0, .int .i64 a0_1, .int .i64 a0_2] 23 (0, 0)) (by (with_reducible repeat (first | refine blk_drewN ?_ _ | refine blk_drew ?_ | refine blk_alloc ?_ _)); exact BK263.out) hb); have n1_ := Aside0.mk (blk_below (g := gb264) (o := .cells #[.int .i64 a2_0, .int .i64 a2_1, .int .i64 a2_2] 23 (0, 0)) (by (with_reducible repeat (first | refine blk_drewN ?_ _ | refine blk_drew ?_ | refine blk_alloc ?_ _)); exact BK264.out) hb); have n2_ := Aside0.mk (blk_below (g := gb269) (o := .cells #[.int .i64 t265, .int .i64 t266, .int .i64 t267] 23 (0, 0)) (by (with_reducible repeat (first | refine blk_drewN ?_ _ | refine blk_drew ?_ | refine blk_alloc ?_ _)); exact BK269.out) hb); have n3_ := Aside0.mk (blk_below (g := gb274) (o := .cells #[.int .i64 t270, .int .i64 t271, .int .i64 t272] 23 (0, 0)) (by (with_reducible repeat (first | refine blk_drewN ?_ _ | refine blk_drew ?_ | refine blk_alloc ?_ _)); exact BK274.out) hb); have n4_ := Aside0.mk (below_step (by repeat (first | (with_reducible first | exact HB.out | apply below_alloc | apply pw_below_drewN | apply below_drew1 | refine below_set ?_ GE263.out | refine below_set ?_ GE264.out | refine below_set ?_ GE269.out | refine below_set ?_ GE274.out) | exact HB.out)) hb); clear BK263; clear BK264; clear BK269; clear BK274; clear HB; have BK263 := n0_; have BK264 := n1_; have BK269 := n2_; have BK274 := n3_; have HB := n4_; clear n0_ n1_ n2_ n3_ n4_; (try clear hb); (try clear hb2); (try clear hk); (try clear hi); have hnb128 := NB263_269.out; have hnc128 := NB269_263.out; have hnb129 := NB263_274.out; have hnc129 := NB274_263.out; have hcz130_0 : w127.cell? ⟨gb263, 0, none⟩ = some (.int .i64 a0_0) := (blk_cell BK263.out 0).trans rfl; have hcz130_1 : w127.cell? ⟨gb263, 1, none⟩ = some (.int .i64 a0_1) := (blk_cell BK263.out 1).trans rfl; have hcz130_2 : w127.cell? ⟨gb263, 2, none⟩ = some (.int .i64 a0_2) := (blk_cell BK263.out 2).trans rfl; have hfz130_0 := blk_frozen BK263.out 0; have hfz130_1 := blk_frozen BK263.out 1; have hfz130_2 := blk_frozen BK263.out 2; have hcz131_0 : w127.cell? ⟨gb264, 0, none⟩ = some (.int .i64 a2_0) := (blk_cell BK264.out 0).trans rfl; have hcz131_1 : w127.cell? ⟨gb264, 1, none⟩ = some (.int .i64 a2_1) := (blk_cell BK264.out 1).trans rfl; have hcz131_2 : w127.cell? ⟨gb264, 2, none⟩ = some (.int .i64 a2_2) := (blk_cell BK264.out 2).trans rfl; have hfz131_0 := blk_frozen BK264.out 0; have hfz131_1 := blk_frozen BK264.out 1; have hfz131_2 := blk_frozen BK264.out 2) | (go_at_call 19; (with_reducible refine (semver_Compare.calls kj40 a0_0 a0_1 a0_2 a2_0 a2_1 a2_2 t287 _ A102.out).mono ?_); rintro e w132 ⟨rfl, hb⟩; have n0_ := Aside0.mk (blk_below (g := gb263) (o := .cells #[.int .i64 a0_0, .int .i64 a0_1, .int .i64 a0_2] 23 (0, 0)) (by (with_reducible repeat (first | refine blk_drewN ?_ _ | refine blk_drew ?_ | refine blk_alloc ?_ _)); exact BK263.out) hb); have n1_ := Aside0.mk (blk_below (g := gb264) (o := .cells #[.int .i64 a2_0, .int .i64 a2_1, .int .i64 a2_2] 23 (0, 0)) (by (with_reducible repeat (first | refine blk_drewN ?_ _ | refine blk_drew ?_ | refine blk_alloc ?_ _)); exact BK264.out) hb); have n2_ := Aside0.mk (blk_below (g := gb269) (o := .cells #[.int .i64 t265, .int .i64 t266, .int .i64 t267] 23 (0, 0)) (by (with_reducible repeat (first | refine blk_drewN ?_ _ | refine blk_drew ?_ | refine blk_alloc ?_ _)); exact BK269.out) hb); have n3_ := Aside0.mk (blk_below (g := gb274) (o := .cells #[.int .i64 t270, .int .i64 t271, .int .i64 t272] 23 (0, 0)) (by (with_reducible repeat (first | refine blk_drewN ?_ _ | refine blk_drew ?_ | refine blk_alloc ?_ _)); exact BK274.out) hb); have n4_ := Aside0.mk (below_step (by repeat (first | (with_reducible first | exact HB.out | apply below_alloc | apply pw_below_drewN | apply below_drew1 | refine below_set ?_ GE263.out | refine below_set ?_ GE264.out | refine below_set ?_ GE269.out | refine below_set ?_ GE274.out) | exact HB.out)) hb); clear BK263; clear BK264; clear BK269; clear BK274; clear HB; have BK263 := n0_; have BK264 := n1_; have BK269 := n2_; have BK274 := n3_; have HB := n4_; clear n0_ n1_ n2_ n3_ n4_; (try clear hb); (try clear hb2); (try clear hk); (try clear hi)) | (go_at_call 7; (with_reducible refine (touchstonelaw05_alive.calls  t290 _ ?side1 A122.out).mono ?_); (case side1 => exact EnvOk.below HE.out (by repeat (first | (with_reducible first | exact HB.out | apply below_alloc | apply pw_below_drewN | apply below_drew1 | refine below_set ?_ GE263.out | refine below_set ?_ GE264.out | refine below_set ?_ GE269.out | refine below_set ?_ GE274.out) | exact HB.out))); rintro e w133 ⟨rfl, hb⟩; have n0_ := Aside0.mk (blk_below (g := gb263) (o := .cells #[.int .i64 a0_0, .int .i64 a0_1, .int .i64 a0_2] 23 (0, 0)) (by (with_reducible repeat (first | refine blk_drewN ?_ _ | refine blk_drew ?_ | refine blk_alloc ?_ _)); exact BK263.out) hb); have n1_ := Aside0.mk (blk_below (g := gb264) (o := .cells #[.int .i64 a2_0, .int .i64 a2_1, .int .i64 a2_2] 23 (0, 0)) (by (with_reducible repeat (first | refine blk_drewN ?_ _ | refine blk_drew ?_ | refine blk_alloc ?_ _)); exact BK264.out) hb); have n2_ := Aside0.mk (blk_below (g := gb269) (o := .cells #[.int .i64 t265, .int .i64 t266, .int .i64 t267] 23 (0, 0)) (by (with_reducible repeat (first | refine blk_drewN ?_ _ | refine blk_drew ?_ | refine blk_alloc ?_ _)); exact BK269.out) hb); have n3_ := Aside0.mk (blk_below (g := gb274) (o := .cells #[.int .i64 t270, .int .i64 t271, .int .i64 t272] 23 (0, 0)) (by (with_reducible repeat (first | refine blk_drewN ?_ _ | refine blk_drew ?_ | refine blk_alloc ?_ _)); exact BK274.out) hb); have n4_ := Aside0.mk (below_step (by repeat (first | (with_reducible first | exact HB.out | apply below_alloc | apply pw_below_drewN | apply below_drew1 | refine below_set ?_ GE263.out | refine below_set ?_ GE264.out | refine below_set ?_ GE269.out | refine below_set ?_ GE274.out) | exact HB.out)) hb); clear BK263; clear BK264; clear BK269; clear BK274; clear HB; have BK263 := n0_; have BK264 := n1_; have BK269 := n2_; have BK274 := n3_; have HB := n4_; clear n0_ n1_ n2_ n3_ n4_; (try clear hb); (try clear hb2); (try clear hk); (try clear hi)))
                go_ret
                exact ⟨by first | rfl | (simp [errW_none, errW_some] <;> rfl) | (simp [*, errW_none, errW_some] <;> rfl), by repeat (first | (with_reducible first | exact HB.out | apply below_alloc | apply pw_below_drewN | apply below_drew1 | refine below_set ?_ GE263.out | refine below_set ?_ GE264.out | refine below_set ?_ GE269.out | refine below_set ?_ GE274.out) | exact HB.out)⟩
              ·replace c101 := Bool.eq_false_iff.mpr c101
               subst c101
               have H1 : ((touchstonelaw05_alive.f).bind fun t291 => (some t291)) = some r := by rw [if_neg (show ¬ (false = true) by decide)] at H; exact H
               clear H
               have H := H1
               clear H1
               replace H := Option.bind_eq_some_iff.mp H
               obtain ⟨t291, A1340, H⟩ := H
               replace H : (some t291) = some r := H
               have A134 := Aside0.mk A1340
               clear A1340
               obtain rfl := Option.some.inj H
               have hnb135 := NB264_263.out
               have hnc135 := NB263_264.out
               have hnb136 := NB264_269.out
               have hnc136 := NB269_264.out
               have hnb137 := NB264_274.out
               have hnc137 := NB274_264.out
               have hcz138_0 : wc.cell? ⟨gb264, 0, none⟩ = some (.int .i64 a2_0) := (blk_cell BK264.out 0).trans rfl
               have hcz138_1 : wc.cell? ⟨gb264, 1, none⟩ = some (.int .i64 a2_1) := (blk_cell BK264.out 1).trans rfl
               have hcz138_2 : wc.cell? ⟨gb264, 2, none⟩ = some (.int .i64 a2_2) := (blk_cell BK264.out 2).trans rfl
               have hfz138_0 := blk_frozen BK264.out 0
               have hfz138_1 := blk_frozen BK264.out 1
               have hfz138_2 := blk_frozen BK264.out 2
               go_wp2_with (first | (go_at_call 15; (with_reducible refine (semver_Right.calls a2_0 a2_1 a2_2 false _ A100.out).mono ?_); rintro e w139 ⟨rfl, hb⟩; have n0_ := Aside0.mk (blk_below (g := gb263) (o := .cells #[.int .i64 a0_0, .int .i64 a0_1, .int .i64 a0_2] 23 (0, 0)) (by (with_reducible repeat (first | refine blk_drewN ?_ _ | refine blk_drew ?_ | refine blk_alloc ?_ _)); exact BK263.out) hb); have n1_ := Aside0.mk (blk_below (g := gb264) (o := .cells #[.int .i64 a2_0, .int .i64 a2_1, .int .i64 a2_2] 23 (0, 0)) (by (with_reducible repeat (first | refine blk_drewN ?_ _ | refine blk_drew ?_ | refine blk_alloc ?_ _)); exact BK264.out) hb); have n2_ := Aside0.mk (blk_below (g := gb269) (o := .cells #[.int .i64 t265, .int .i64 t266, .int .i64 t267] 23 (0, 0)) (by (with_reducible repeat (first | refine blk_drewN ?_ _ | refine blk_drew ?_ | refine blk_alloc ?_ _)); exact BK269.out) hb); have n3_ := Aside0.mk (blk_below (g := gb274) (o := .cells #[.int .i64 t270, .int .i64 t271, .int .i64 t272] 23 (0, 0)) (by (with_reducible repeat (first | refine blk_drewN ?_ _ | refine blk_drew ?_ | refine blk_alloc ?_ _)); exact BK274.out) hb); have n4_ := Aside0.mk (below_step (by repeat (first | (with_reducible first | exact HB.out | apply below_alloc | apply pw_below_drewN | apply below_drew1 | refine below_set ?_ GE263.out | refine below_set ?_ GE264.out | refine below_set ?_ GE269.out | refine below_set ?_ GE274.out) | exact HB.out)) hb); clear BK263; clear BK264; clear BK269; clear BK274; clear HB; have BK263 := n0_; have BK264 := n1_; have BK269 := n2_; have BK274 := n3_; have HB := n4_; clear n0_ n1_ n2_ n3_ n4_; (try clear hb); (try clear hb2); (try clear hk); (try clear hi)) | (go_at_call 7; (with_reducible refine (touchstonelaw05_alive.calls  t291 _ ?side1 A134.out).mono ?_); (case side1 => exact EnvOk.below HE.out (by repeat (first | (with_reducible first | exact HB.out | apply below_alloc | apply pw_below_drewN | apply below_drew1 | refine below_set ?_ GE263.out | refine below_set ?_ GE264.out | refine below_set ?_ GE269.out | refine below_set ?_ GE274.out) | exact HB.out))); rintro e w140 ⟨rfl, hb⟩; have n0_ := Aside0.mk (blk_below (g := gb263) (o := .cells #[.int .i64 a0_0, .int .i64 a0_1, .int .i64 a0_2] 23 (0, 0)) (by (with_reducible repeat (first | refine blk_drewN ?_ _ | refine blk_drew ?_ | refine blk_alloc ?_ _)); exact BK263.out) hb); have n1_ := Aside0.mk (blk_below (g := gb264) (o := .cells #[.int .i64 a2_0, .int .i64 a2_1, .int .i64 a2_2] 23 (0, 0)) (by (with_reducible repeat (first | refine blk_drewN ?_ _ | refine blk_drew ?_ | refine blk_alloc ?_ _)); exact BK264.out) hb); have n2_ := Aside0.mk (blk_below (g := gb269) (o := .cells #[.int .i64 t265, .int .i64 t266, .int .i64 t267] 23 (0, 0)) (by (with_reducible repeat (first | refine blk_drewN ?_ _ | refine blk_drew ?_ | refine blk_alloc ?_ _)); exact BK269.out) hb); have n3_ := Aside0.mk (blk_below (g := gb274) (o := .cells #[.int .i64 t270, .int .i64 t271, .int .i64 t272] 23 (0, 0)) (by (with_reducible repeat (first | refine blk_drewN ?_ _ | refine blk_drew ?_ | refine blk_alloc ?_ _)); exact BK274.out) hb); have n4_ := Aside0.mk (below_step (by repeat (first | (with_reducible first | exact HB.out | apply below_alloc | apply pw_below_drewN | apply below_drew1 | refine below_set ?_ GE263.out | refine below_set ?_ GE264.out | refine below_set ?_ GE269.out | refine below_set ?_ GE274.out) | exact HB.out)) hb); clear BK263; clear BK264; clear BK269; clear BK274; clear HB; have BK263 := n0_; have BK264 := n1_; have BK269 := n2_; have BK274 := n3_; have HB := n4_; clear n0_ n1_ n2_ n3_ n4_; (try clear hb); (try clear hb2); (try clear hk); (try clear hi)))
               go_ret
               exact ⟨by first | rfl | (simp [errW_none, errW_some] <;> rfl) | (simp [*, errW_none, errW_some] <;> rfl), by repeat (first | (with_reducible first | exact HB.out | apply below_alloc | apply pw_below_drewN | apply below_drew1 | refine below_set ?_ GE263.out | refine below_set ?_ GE264.out | refine below_set ?_ GE269.out | refine below_set ?_ GE274.out) | exact HB.out)⟩
             ·rw [if_neg c99] at H
              have c99b0 : (a1 == 2) = false := beq_eq_false_iff_ne.mpr c99
              have c99b1 : (a1 != 2) = true := bne_iff_ne.mpr c99
              by_cases c141 : a2_1 = 0
              ·rw [if_pos c141] at H
               have c141b0 : (a2_1 == 0) = true := beq_iff_eq.mpr c141
               have c141b1 : (a2_1 != 0) = false := bne_eq_false_iff_eq.mpr c141
               clear c141
               replace H := Option.bind_eq_some_iff.mp H
               obtain ⟨t292, A1420, H⟩ := H
               replace H : (if t292 = true then ((semver_Compare.f kj40 a0_0 a0_1 a0_2 a2_0 a2_1 a2_2).bind fun t293 => (if t293 < 0 then ((semver_Compare.f kj40 a2_0 a2_1 a2_2 t265 t266 t267).bind fun t294 => (if t294 < 0 then (some false) else ((touchstonelaw05_alive.f).bind fun t295 => (some t295)))) else ((touchstonelaw05_alive.f).bind fun t296 => (some t296)))) else ((touchstonelaw05_alive.f).bind fun t297 => (some t297))) = some r := H
               have A142 := Aside0.mk A1420
               clear A1420
               by_cases c143 : t292 = true
               ·subst c143
                have H1 : ((semver_Compare.f kj40 a0_0 a0_1 a0_2 a2_0 a2_1 a2_2).bind fun t293 => (if t293 < 0 then ((semver_Compare.f kj40 a2_0 a2_1 a2_2 t265 t266 t267).bind fun t294 => (if t294 < 0 then (some false) else ((touchstonelaw05_alive.f).bind fun t295 => (some t295)))) else ((touchstonelaw05_alive.f).bind fun t296 => (some t296)))) = some r := by rw [if_pos rfl] at H; exact H
                clear H
                have H := H1
                clear H1
                replace H := Option.bind_eq_some_iff.mp H
                obtain ⟨t293, A1440, H⟩ := H
                replace H : (if t293 < 0 then ((semver_Compare.f kj40 a2_0 a2_1 a2_2 t265 t266 t267).bind fun t294 => (if t294 < 0 then (some false) else ((touchstonelaw05_alive.f).bind fun t295 => (some t295)))) else ((touchstonelaw05_alive.f).bind fun t296 => (some t296))) = some r := H
                have A144 := Aside0.mk A1440
                clear A1440
                by_cases c145 : t293 < 0
                ·rw [if_pos c145] at H
                 have c145b0 : decide (t293 < 0) = true := decide_eq_true c145
                 clear c145
                 replace H := Option.bind_eq_some_iff.mp H
                 obtain ⟨t294, A1460, H⟩ := H
                 replace H : (if t294 < 0 then (some false) else ((touchstonelaw05_alive.f).bind fun t295 => (some t295))) = some r := H
                 have A146 := Aside0.mk A1460
                 clear A1460
                 by_cases c147 : t294 < 0
                 ·rw [if_pos c147] at H
                  have c147b0 : decide (t294 < 0) = true := decide_eq_true c147
                  clear c147
                  exact absurd ((Option.some.inj H).trans HRT.out) (by decide)
                 ·rw [if_neg c147] at H
                  have c147b0 : decide (t294 < 0) = false := decide_eq_false c147
                  clear c147
                  replace H := Option.bind_eq_some_iff.mp H
                  obtain ⟨t295, A1480, H⟩ := H
                  replace H : (some t295) = some r := H
                  have A148 := Aside0.mk A1480
                  clear A1480
                  obtain rfl := Option.some.inj H
                  have hnb149 := NB264_263.out
                  have hnc149 := NB263_264.out
                  have hnb150 := NB264_269.out
                  have hnc150 := NB269_264.out
                  have hnb151 := NB264_274.out
                  have hnc151 := NB274_264.out
                  have hcz152_0 : wc.cell? ⟨gb264, 0, none⟩ = some (.int .i64 a2_0) := (blk_cell BK264.out 0).trans rfl
                  have hcz152_1 : wc.cell? ⟨gb264, 1, none⟩ = some (.int .i64 a2_1) := (blk_cell BK264.out 1).trans rfl
                  have hcz152_2 : wc.cell? ⟨gb264, 2, none⟩ = some (.int .i64 a2_2) := (blk_cell BK264.out 2).trans rfl
                  have hfz152_0 := blk_frozen BK264.out 0
                  have hfz152_1 := blk_frozen BK264.out 1
                  have hfz152_2 := blk_frozen BK264.out 2
                  go_wp2_with (first | (go_at_call 15; (with_reducible refine (semver_Right.calls a2_0 a2_1 a2_2 true _ A142.out).mono ?_); rintro e w153 ⟨rfl, hb⟩; have n0_ := Aside0.mk (blk_below (g := gb263) (o := .cells #[.int .i64 a0_0, .int .i64 a0_1, .int .i64 a0_2] 23 (0, 0)) (by (with_reducible repeat (first | refine blk_drewN ?_ _ | refine blk_drew ?_ | refine blk_alloc ?_ _)); exact BK263.out) hb); have n1_ := Aside0.mk (blk_below (g := gb264) (o := .cells #[.int .i64 a2_0, .int .i64 a2_1, .int .i64 a2_2] 23 (0, 0)) (by (with_reducible repeat (first | refine blk_drewN ?_ _ | refine blk_drew ?_ | refine blk_alloc ?_ _)); exact BK264.out) hb); have n2_ := Aside0.mk (blk_below (g := gb269) (o := .cells #[.int .i64 t265, .int .i64 t266, .int .i64 t267] 23 (0, 0)) (by (with_reducible repeat (first | refine blk_drewN ?_ _ | refine blk_drew ?_ | refine blk_alloc ?_ _)); exact BK269.out) hb); have n3_ := Aside0.mk (blk_below (g := gb274) (o := .cells #[.int .i64 t270, .int .i64 t271, .int .i64 t272] 23 (0, 0)) (by (with_reducible repeat (first | refine blk_drewN ?_ _ | refine blk_drew ?_ | refine blk_alloc ?_ _)); exact BK274.out) hb); have n4_ := Aside0.mk (below_step (by repeat (first | (with_reducible first | exact HB.out | apply below_alloc | apply pw_below_drewN | apply below_drew1 | refine below_set ?_ GE263.out | refine below_set ?_ GE264.out | refine below_set ?_ GE269.out | refine below_set ?_ GE274.out) | exact HB.out)) hb); clear BK263; clear BK264; clear BK269; clear BK274; clear HB; have BK263 := n0_; have BK264 := n1_; have BK269 := n2_; have BK274 := n3_; have HB := n4_; clear n0_ n1_ n2_ n3_ n4_; (try clear hb); (try clear hb2); (try clear hk); (try clear hi); have hnb154 := NB263_269.out; have hnc154 := NB269_263.out; have hnb155 := NB263_274.out; have hnc155 := NB274_263.out; have hcz156_0 : w153.cell? ⟨gb263, 0, none⟩ = some (.int .i64 a0_0) := (blk_cell BK263.out 0).trans rfl; have hcz156_1 : w153.cell? ⟨gb263, 1, none⟩ = some (.int .i64 a0_1) := (blk_cell BK263.out 1).trans rfl; have hcz156_2 : w153.cell? ⟨gb263, 2, none⟩ = some (.int .i64 a0_2) := (blk_cell BK263.out 2).trans rfl; have hfz156_0 := blk_frozen BK263.out 0; have hfz156_1 := blk_frozen BK263.out 1; have hfz156_2 := blk_frozen BK263.out 2; have hcz157_0 : w153.cell? ⟨gb264, 0, none⟩ = some (.int .i64 a2_0) := (blk_cell BK264.out 0).trans rfl; have hcz157_1 : w153.cell? ⟨gb264, 1, none⟩ = some (.int .i64 a2_1) := (blk_cell BK264.out 1).trans rfl; have hcz157_2 : w153.cell? ⟨gb264, 2, none⟩ = some (.int .i64 a2_2) := (blk_cell BK264.out 2).trans rfl; have hfz157_0 := blk_frozen BK264.out 0; have hfz157_1 := blk_frozen BK264.out 1; have hfz157_2 := blk_frozen BK264.out 2) | (go_at_call 19; (with_reducible refine (semver_Compare.calls kj40 a0_0 a0_1 a0_2 a2_0 a2_1 a2_2 t293 _ A144.out).mono ?_); rintro e w158 ⟨rfl, hb⟩; have n0_ := Aside0.mk (blk_below (g := gb263) (o := .cells #[.int .i64 a0_0, .int .i64 a0_1, .int .i64 a0_2] 23 (0, 0)) (by (with_reducible repeat (first | refine blk_drewN ?_ _ | refine blk_drew ?_ | refine blk_alloc ?_ _)); exact BK263.out) hb); have n1_ := Aside0.mk (blk_below (g := gb264) (o := .cells #[.int .i64 a2_0, .int .i64 a2_1, .int .i64 a2_2] 23 (0, 0)) (by (with_reducible repeat (first | refine blk_drewN ?_ _ | refine blk_drew ?_ | refine blk_alloc ?_ _)); exact BK264.out) hb); have n2_ := Aside0.mk (blk_below (g := gb269) (o := .cells #[.int .i64 t265, .int .i64 t266, .int .i64 t267] 23 (0, 0)) (by (with_reducible repeat (first | refine blk_drewN ?_ _ | refine blk_drew ?_ | refine blk_alloc ?_ _)); exact BK269.out) hb); have n3_ := Aside0.mk (blk_below (g := gb274) (o := .cells #[.int .i64 t270, .int .i64 t271, .int .i64 t272] 23 (0, 0)) (by (with_reducible repeat (first | refine blk_drewN ?_ _ | refine blk_drew ?_ | refine blk_alloc ?_ _)); exact BK274.out) hb); have n4_ := Aside0.mk (below_step (by repeat (first | (with_reducible first | exact HB.out | apply below_alloc | apply pw_below_drewN | apply below_drew1 | refine below_set ?_ GE263.out | refine below_set ?_ GE264.out | refine below_set ?_ GE269.out | refine below_set ?_ GE274.out) | exact HB.out)) hb); clear BK263; clear BK264; clear BK269; clear BK274; clear HB; have BK263 := n0_; have BK264 := n1_; have BK269 := n2_; have BK274 := n3_; have HB := n4_; clear n0_ n1_ n2_ n3_ n4_; (try clear hb); (try clear hb2); (try clear hk); (try clear hi); have hcz159_0 : w158.cell? ⟨gb264, 0, none⟩ = some (.int .i64 a2_0) := (blk_cell BK264.out 0).trans rfl; have hcz159_1 : w158.cell? ⟨gb264, 1, none⟩ = some (.int .i64 a2_1) := (blk_cell BK264.out 1).trans rfl; have hcz159_2 : w158.cell? ⟨gb264, 2, none⟩ = some (.int .i64 a2_2) := (blk_cell BK264.out 2).trans rfl; have hfz159_0 := blk_frozen BK264.out 0; have hfz159_1 := blk_frozen BK264.out 1; have hfz159_2 := blk_frozen BK264.out 2; have hnb160 := NB269_274.out; have hnc160 := NB274_269.out; have hcz161_0 : w158.cell? ⟨gb269, 0, none⟩ = some (.int .i64 t265) := (blk_cell BK269.out 0).trans rfl; have hcz161_1 : w158.cell? ⟨gb269, 1, none⟩ = some (.int .i64 t266) := (blk_cell BK269.out 1).trans rfl; have hcz161_2 : w158.cell? ⟨gb269, 2, none⟩ = some (.int .i64 t267) := (blk_cell BK269.out 2).trans rfl; have hfz161_0 := blk_frozen BK269.out 0; have hfz161_1 := blk_frozen BK269.out 1; have hfz161_2 := blk_frozen BK269.out 2) | (go_at_call 19; (with_reducible refine (semver_Compare.calls kj40 a2_0 a2_1 a2_2 t265 t266 t267 t294 _ A146.out).mono ?_); rintro e w162 ⟨rfl, hb⟩; have n0_ := Aside0.mk (blk_below (g := gb263) (o := .cells #[.int .i64 a0_0, .int .i64 a0_1, .int .i64 a0_2] 23 (0, 0)) (by (with_reducible repeat (first | refine blk_drewN ?_ _ | refine blk_drew ?_ | refine blk_alloc ?_ _)); exact BK263.out) hb); have n1_ := Aside0.mk (blk_below (g := gb264) (o := .cells #[.int .i64 a2_0, .int .i64 a2_1, .int .i64 a2_2] 23 (0, 0)) (by (with_reducible repeat (first | refine blk_drewN ?_ _ | refine blk_drew ?_ | refine blk_alloc ?_ _)); exact BK264.out) hb); have n2_ := Aside0.mk (blk_below (g := gb269) (o := .cells #[.int .i64 t265, .int .i64 t266, .int .i64 t267] 23 (0, 0)) (by (with_reducible repeat (first | refine blk_drewN ?_ _ | refine blk_drew ?_ | refine blk_alloc ?_ _)); exact BK269.out) hb); have n3_ := Aside0.mk (blk_below (g := gb274) (o := .cells #[.int .i64 t270, .int .i64 t271, .int .i64 t272] 23 (0, 0)) (by (with_reducible repeat (first | refine blk_drewN ?_ _ | refine blk_drew ?_ | refine blk_alloc ?_ _)); exact BK274.out) hb); have n4_ := Aside0.mk (below_step (by repeat (first | (with_reducible first | exact HB.out | apply below_alloc | apply pw_below_drewN | apply below_drew1 | refine below_set ?_ GE263.out | refine below_set ?_ GE264.out | refine below_set ?_ GE269.out | refine below_set ?_ GE274.out) | exact HB.out)) hb); clear BK263; clear BK264; clear BK269; clear BK274; clear HB; have BK263 := n0_; have BK264 := n1_; have BK269 := n2_; have BK274 := n3_; have HB := n4_; clear n0_ n1_ n2_ n3_ n4_; (try clear hb); (try clear hb2); (try clear hk); (try clear hi)) | (go_at_call 7; (with_reducible refine (touchstonelaw05_alive.calls  t295 _ ?side1 A148.out).mono ?_); (case side1 => exact EnvOk.below HE.out (by repeat (first | (with_reducible first | exact HB.out | apply below_alloc | apply pw_below_drewN | apply below_drew1 | refine below_set ?_ GE263.out | refine below_set ?_ GE264.out | refine below_set ?_ GE269.out | refine below_set ?_ GE274.out) | exact HB.out))); rintro e w163 ⟨rfl, hb⟩; have n0_ := Aside0.mk (blk_below (g := gb263) (o := .cells #[.int .i64 a0_0, .int .i64 a0_1, .int .i64 a0_2] 23 (0, 0)) (by (with_reducible repeat (first | refine blk_drewN ?_ _ | refine blk_drew ?_ | refine blk_alloc ?_ _)); exact BK263.out) hb); have n1_ := Aside0.mk (blk_below (g := gb264) (o := .cells #[.int .i64 a2_0, .int .i64 a2_1, .int .i64 a2_2] 23 (0, 0)) (by (with_reducible repeat (first | refine blk_drewN ?_ _ | refine blk_drew ?_ | refine blk_alloc ?_ _)); exact BK264.out) hb); have n2_ := Aside0.mk (blk_below (g := gb269) (o := .cells #[.int .i64 t265, .int .i64 t266, .int .i64 t267] 23 (0, 0)) (by (with_reducible repeat (first | refine blk_drewN ?_ _ | refine blk_drew ?_ | refine blk_alloc ?_ _)); exact BK269.out) hb); have n3_ := Aside0.mk (blk_below (g := gb274) (o := .cells #[.int .i64 t270, .int .i64 t271, .int .i64 t272] 23 (0, 0)) (by (with_reducible repeat (first | refine blk_drewN ?_ _ | refine blk_drew ?_ | refine blk_alloc ?_ _)); exact BK274.out) hb); have n4_ := Aside0.mk (below_step (by repeat (first | (with_reducible first | exact HB.out | apply below_alloc | apply pw_below_drewN | apply below_drew1 | refine below_set ?_ GE263.out | refine below_set ?_ GE264.out | refine below_set ?_ GE269.out | refine below_set ?_ GE274.out) | exact HB.out)) hb); clear BK263; clear BK264; clear BK269; clear BK274; clear HB; have BK263 := n0_; have BK264 := n1_; have BK269 := n2_; have BK274 := n3_; have HB := n4_; clear n0_ n1_ n2_ n3_ n4_; (try clear hb); (try clear hb2); (try clear hk); (try clear hi)))
                  go_ret
                  exact ⟨by first | rfl | (simp [errW_none, errW_some] <;> rfl) | (simp [*, errW_none, errW_some] <;> rfl), by repeat (first | (with_reducible first | exact HB.out | apply below_alloc | apply pw_below_drewN | apply below_drew1 | refine below_set ?_ GE263.out | refine below_set ?_ GE264.out | refine below_set ?_ GE269.out | refine below_set ?_ GE274.out) | exact HB.out)⟩
                ·rw [if_neg c145] at H
                 have c145b0 : decide (t293 < 0) = false := decide_eq_false c145
                 clear c145
                 replace H := Option.bind_eq_some_iff.mp H
                 obtain ⟨t296, A1640, H⟩ := H
                 replace H : (some t296) = some r := H
                 have A164 := Aside0.mk A1640
                 clear A1640
                 obtain rfl := Option.some.inj H
                 have hnb165 := NB264_263.out
                 have hnc165 := NB263_264.out
                 have hnb166 := NB264_269.out
                 have hnc166 := NB269_264.out
                 have hnb167 := NB264_274.out
                 have hnc167 := NB274_264.out
                 have hcz168_0 : wc.cell? ⟨gb264, 0, none⟩ = some (.int .i64 a2_0) := (blk_cell BK264.out 0).trans rfl
                 have hcz168_1 : wc.cell? ⟨gb264, 1, none⟩ = some (.int .i64 a2_1) := (blk_cell BK264.out 1).trans rfl
                 have hcz168_2 : wc.cell? ⟨gb264, 2, none⟩ = some (.int .i64 a2_2) := (blk_cell BK264.out 2).trans rfl
                 have hfz168_0 := blk_frozen BK264.out 0
                 have hfz168_1 := blk_frozen BK264.out 1
                 have hfz168_2 := blk_frozen BK264.out 2
                 go_wp2_with (first | (go_at_call 15; (with_reducible refine (semver_Right.calls a2_0 a2_1 a2_2 true _ A142.out).mono ?_); rintro e w169 ⟨rfl, hb⟩; have n0_ := Aside0.mk (blk_below (g := gb263) (o := .cells #[.int .i64 a0_0, .int .i64 a0_1, .int .i64 a0_2] 23 (0, 0)) (by (with_reducible repeat (first | refine blk_drewN ?_ _ | refine blk_drew ?_ | refine blk_alloc ?_ _)); exact BK263.out) hb); have n1_ := Aside0.mk (blk_below (g := gb264) (o := .cells #[.int .i64 a2_0, .int .i64 a2_1, .int .i64 a2_2] 23 (0, 0)) (by (with_reducible repeat (first | refine blk_drewN ?_ _ | refine blk_drew ?_ | refine blk_alloc ?_ _)); exact BK264.out) hb); have n2_ := Aside0.mk (blk_below (g := gb269) (o := .cells #[.int .i64 t265, .int .i64 t266, .int .i64 t267] 23 (0, 0)) (by (with_reducible repeat (first | refine blk_drewN ?_ _ | refine blk_drew ?_ | refine blk_alloc ?_ _)); exact BK269.out) hb); have n3_ := Aside0.mk (blk_below (g := gb274) (o := .cells #[.int .i64 t270, .int .i64 t271, .int .i64 t272] 23 (0, 0)) (by (with_reducible repeat (first | refine blk_drewN ?_ _ | refine blk_drew ?_ | refine blk_alloc ?_ _)); exact BK274.out) hb); have n4_ := Aside0.mk (below_step (by repeat (first | (with_reducible first | exact HB.out | apply below_alloc | apply pw_below_drewN | apply below_drew1 | refine below_set ?_ GE263.out | refine below_set ?_ GE264.out | refine below_set ?_ GE269.out | refine below_set ?_ GE274.out) | exact HB.out)) hb); clear BK263; clear BK264; clear BK269; clear BK274; clear HB; have BK263 := n0_; have BK264 := n1_; have BK269 := n2_; have BK274 := n3_; have HB := n4_; clear n0_ n1_ n2_ n3_ n4_; (try clear hb); (try clear hb2); (try clear hk); (try clear hi); have hnb170 := NB263_269.out; have hnc170 := NB269_263.out; have hnb171 := NB263_274.out; have hnc171 := NB274_263.out; have hcz172_0 : w169.cell? ⟨gb263, 0, none⟩ = some (.int .i64 a0_0) := (blk_cell BK263.out 0).trans rfl; have hcz172_1 : w169.cell? ⟨gb263, 1, none⟩ = some (.int .i64 a0_1) := (blk_cell BK263.out 1).trans rfl; have hcz172_2 : w169.cell? ⟨gb263, 2, none⟩ = some (.int .i64 a0_2) := (blk_cell BK263.out 2).trans rfl; have hfz172_0 := blk_frozen BK263.out 0; have hfz172_1 := blk_frozen BK263.out 1; have hfz172_2 := blk_frozen BK263.out 2; have hcz173_0 : w169.cell? ⟨gb264, 0, none⟩ = some (.int .i64 a2_0) := (blk_cell BK264.out 0).trans rfl; have hcz173_1 : w169.cell? ⟨gb264, 1, none⟩ = some (.int .i64 a2_1) := (blk_cell BK264.out 1).trans rfl; have hcz173_2 : w169.cell? ⟨gb264, 2, none⟩ = some (.int .i64 a2_2) := (blk_cell BK264.out 2).trans rfl; have hfz173_0 := blk_frozen BK264.out 0; have hfz173_1 := blk_frozen BK264.out 1; have hfz173_2 := blk_frozen BK264.out 2) | (go_at_call 19; (with_reducible refine (semver_Compare.calls kj40 a0_0 a0_1 a0_2 a2_0 a2_1 a2_2 t293 _ A144.out).mono ?_); rintro e w174 ⟨rfl, hb⟩; have n0_ := Aside0.mk (blk_below (g := gb263) (o := .cells #[.int .i64 a0_0, .int .i64 a0_1, .int .i64 a0_2] 23 (0, 0)) (by (with_reducible repeat (first | refine blk_drewN ?_ _ | refine blk_drew ?_ | refine blk_alloc ?_ _)); exact BK263.out) hb); have n1_ := Aside0.mk (blk_below (g := gb264) (o := .cells #[.int .i64 a2_0, .int .i64 a2_1, .int .i64 a2_2] 23 (0, 0)) (by (with_reducible repeat (first | refine blk_drewN ?_ _ | refine blk_drew ?_ | refine blk_alloc ?_ _)); exact BK264.out) hb); have n2_ := Aside0.mk (blk_below (g := gb269) (o := .cells #[.int .i64 t265, .int .i64 t266, .int .i64 t267] 23 (0, 0)) (by (with_reducible repeat (first | refine blk_drewN ?_ _ | refine blk_drew ?_ | refine blk_alloc ?_ _)); exact BK269.out) hb); have n3_ := Aside0.mk (blk_below (g := gb274) (o := .cells #[.int .i64 t270, .int .i64 t271, .int .i64 t272] 23 (0, 0)) (by (with_reducible repeat (first | refine blk_drewN ?_ _ | refine blk_drew ?_ | refine blk_alloc ?_ _)); exact BK274.out) hb); have n4_ := Aside0.mk (below_step (by repeat (first | (with_reducible first | exact HB.out | apply below_alloc | apply pw_below_drewN | apply below_drew1 | refine below_set ?_ GE263.out | refine below_set ?_ GE264.out | refine below_set ?_ GE269.out | refine below_set ?_ GE274.out) | exact HB.out)) hb); clear BK263; clear BK264; clear BK269; clear BK274; clear HB; have BK263 := n0_; have BK264 := n1_; have BK269 := n2_; have BK274 := n3_; have HB := n4_; clear n0_ n1_ n2_ n3_ n4_; (try clear hb); (try clear hb2); (try clear hk); (try clear hi)) | (go_at_call 7; (with_reducible refine (touchstonelaw05_alive.calls  t296 _ ?side1 A164.out).mono ?_); (case side1 => exact EnvOk.below HE.out (by repeat (first | (with_reducible first | exact HB.out | apply below_alloc | apply pw_below_drewN | apply below_drew1 | refine below_set ?_ GE263.out | refine below_set ?_ GE264.out | refine below_set ?_ GE269.out | refine below_set ?_ GE274.out) | exact HB.out))); rintro e w175 ⟨rfl, hb⟩; have n0_ := Aside0.mk (blk_below (g := gb263) (o := .cells #[.int .i64 a0_0, .int .i64 a0_1, .int .i64 a0_2] 23 (0, 0)) (by (with_reducible repeat (first | refine blk_drewN ?_ _ | refine blk_drew ?_ | refine blk_alloc ?_ _)); exact BK263.out) hb); have n1_ := Aside0.mk (blk_below (g := gb264) (o := .cells #[.int .i64 a2_0, .int .i64 a2_1, .int .i64 a2_2] 23 (0, 0)) (by (with_reducible repeat (first | refine blk_drewN ?_ _ | refine blk_drew ?_ | refine blk_alloc ?_ _)); exact BK264.out) hb); have n2_ := Aside0.mk (blk_below (g := gb269) (o := .cells #[.int .i64 t265, .int .i64 t266, .int .i64 t267] 23 (0, 0)) (by (with_reducible repeat (first | refine blk_drewN ?_ _ | refine blk_drew ?_ | refine blk_alloc ?_ _)); exact BK269.out) hb); have n3_ := Aside0.mk (blk_below (g := gb274) (o := .cells #[.int .i64 t270, .int .i64 t271, .int .i64 t272] 23 (0, 0)) (by (with_reducible repeat (first | refine blk_drewN ?_ _ | refine blk_drew ?_ | refine blk_alloc ?_ _)); exact BK274.out) hb); have n4_ := Aside0.mk (below_step (by repeat (first | (with_reducible first | exact HB.out | apply below_alloc | apply pw_below_drewN | apply below_drew1 | refine below_set ?_ GE263.out | refine below_set ?_ GE264.out | refine below_set ?_ GE269.out | refine below_set ?_ GE274.out) | exact HB.out)) hb); clear BK263; clear BK264; clear BK269; clear BK274; clear HB; have BK263 := n0_; have BK264 := n1_; have BK269 := n2_; have BK274 := n3_; have HB := n4_; clear n0_ n1_ n2_ n3_ n4_; (try clear hb); (try clear hb2); (try clear hk); (try clear hi)))
                 go_ret
                 exact ⟨by first | rfl | (simp [errW_none, errW_some] <;> rfl) | (simp [*, errW_none, errW_some] <;> rfl), by repeat (first | (with_reducible first | exact HB.out | apply below_alloc | apply pw_below_drewN | apply below_drew1 | refine below_set ?_ GE263.out | refine below_set ?_ GE264.out | refine below_set ?_ GE269.out | refine below_set ?_ GE274.out) | exact HB.out)⟩
               ·replace c143 := Bool.eq_false_iff.mpr c143
                subst c143
                have H1 : ((touchstonelaw05_alive.f).bind fun t297 => (some t297)) = some r := by rw [if_neg (show ¬ (false = true) by decide)] at H; exact H
                clear H
                have H := H1
                clear H1
                replace H := Option.bind_eq_some_iff.mp H
                obtain ⟨t297, A1760, H⟩ := H
                replace H : (some t297) = some r := H
                have A176 := Aside0.mk A1760
                clear A1760
                obtain rfl := Option.some.inj H
                have hnb177 := NB264_263.out
                have hnc177 := NB263_264.out
                have hnb178 := NB264_269.out
                have hnc178 := NB269_264.out
                have hnb179 := NB264_274.out
                have hnc179 := NB274_264.out
                have hcz180_0 : wc.cell? ⟨gb264, 0, none⟩ = some (.int .i64 a2_0) := (blk_cell BK264.out 0).trans rfl
                have hcz180_1 : wc.cell? ⟨gb264, 1, none⟩ = some (.int .i64 a2_1) := (blk_cell BK264.out 1).trans rfl
                have hcz180_2 : wc.cell? ⟨gb264, 2, none⟩ = some (.int .i64 a2_2) := (blk_cell BK264.out 2).trans rfl
                have hfz180_0 := blk_frozen BK264.out 0
                have hfz180_1 := blk_frozen BK264.out 1
                have hfz180_2 := blk_frozen BK264.out 2
                go_wp2_with (first | (go_at_call 15; (with_reducible refine (semver_Right.calls a2_0 a2_1 a2_2 false _ A142.out).mono ?_); rintro e w181 ⟨rfl, hb⟩; have n0_ := Aside0.mk (blk_below (g := gb263) (o := .cells #[.int .i64 a0_0, .int .i64 a0_1, .int .i64 a0_2] 23 (0, 0)) (by (with_reducible repeat (first | refine blk_drewN ?_ _ | refine blk_drew ?_ | refine blk_alloc ?_ _)); exact BK263.out) hb); have n1_ := Aside0.mk (blk_below (g := gb264) (o := .cells #[.int .i64 a2_0, .int .i64 a2_1, .int .i64 a2_2] 23 (0, 0)) (by (with_reducible repeat (first | refine blk_drewN ?_ _ | refine blk_drew ?_ | refine blk_alloc ?_ _)); exact BK264.out) hb); have n2_ := Aside0.mk (blk_below (g := gb269) (o := .cells #[.int .i64 t265, .int .i64 t266, .int .i64 t267] 23 (0, 0)) (by (with_reducible repeat (first | refine blk_drewN ?_ _ | refine blk_drew ?_ | refine blk_alloc ?_ _)); exact BK269.out) hb); have n3_ := Aside0.mk (blk_below (g := gb274) (o := .cells #[.int .i64 t270, .int .i64 t271, .int .i64 t272] 23 (0, 0)) (by (with_reducible repeat (first | refine blk_drewN ?_ _ | refine blk_drew ?_ | refine blk_alloc ?_ _)); exact BK274.out) hb); have n4_ := Aside0.mk (below_step (by repeat (first | (with_reducible first | exact HB.out | apply below_alloc | apply pw_below_drewN | apply below_drew1 | refine below_set ?_ GE263.out | refine below_set ?_ GE264.out | refine below_set ?_ GE269.out | refine below_set ?_ GE274.out) | exact HB.out)) hb); clear BK263; clear BK264; clear BK269; clear BK274; clear HB; have BK263 := n0_; have BK264 := n1_; have BK269 := n2_; have BK274 := n3_; have HB := n4_; clear n0_ n1_ n2_ n3_ n4_; (try clear hb); (try clear hb2); (try clear hk); (try clear hi)) | (go_at_call 7; (with_reducible refine (touchstonelaw05_alive.calls  t297 _ ?side1 A176.out).mono ?_); (case side1 => exact EnvOk.below HE.out (by repeat (first | (with_reducible first | exact HB.out | apply below_alloc | apply pw_below_drewN | apply below_drew1 | refine below_set ?_ GE263.out | refine below_set ?_ GE264.out | refine below_set ?_ GE269.out | refine below_set ?_ GE274.out) | exact HB.out))); rintro e w182 ⟨rfl, hb⟩; have n0_ := Aside0.mk (blk_below (g := gb263) (o := .cells #[.int .i64 a0_0, .int .i64 a0_1, .int .i64 a0_2] 23 (0, 0)) (by (with_reducible repeat (first | refine blk_drewN ?_ _ | refine blk_drew ?_ | refine blk_alloc ?_ _)); exact BK263.out) hb); have n1_ := Aside0.mk (blk_below (g := gb264) (o := .cells #[.int .i64 a2_0, .int .i64 a2_1, .int .i64 a2_2] 23 (0, 0)) (by (with_reducible repeat (first | refine blk_drewN ?_ _ | refine blk_drew ?_ | refine blk_alloc ?_ _)); exact BK264.out) hb); have n2_ := Aside0.mk (blk_below (g := gb269) (o := .cells #[.int .i64 t265, .int .i64 t266, .int .i64 t267] 23 (0, 0)) (by (with_reducible repeat (first | refine blk_drewN ?_ _ | refine blk_drew ?_ | refine blk_alloc ?_ _)); exact BK269.out) hb); have n3_ := Aside0.mk (blk_below (g := gb274) (o := .cells #[.int .i64 t270, .int .i64 t271, .int .i64 t272] 23 (0, 0)) (by (with_reducible repeat (first | refine blk_drewN ?_ _ | refine blk_drew ?_ | refine blk_alloc ?_ _)); exact BK274.out) hb); have n4_ := Aside0.mk (below_step (by repeat (first | (with_reducible first | exact HB.out | apply below_alloc | apply pw_below_drewN | apply below_drew1 | refine below_set ?_ GE263.out | refine below_set ?_ GE264.out | refine below_set ?_ GE269.out | refine below_set ?_ GE274.out) | exact HB.out)) hb); clear BK263; clear BK264; clear BK269; clear BK274; clear HB; have BK263 := n0_; have BK264 := n1_; have BK269 := n2_; have BK274 := n3_; have HB := n4_; clear n0_ n1_ n2_ n3_ n4_; (try clear hb); (try clear hb2); (try clear hk); (try clear hi)))
                go_ret
                exact ⟨by first | rfl | (simp [errW_none, errW_some] <;> rfl) | (simp [*, errW_none, errW_some] <;> rfl), by repeat (first | (with_reducible first | exact HB.out | apply below_alloc | apply pw_below_drewN | apply below_drew1 | refine below_set ?_ GE263.out | refine below_set ?_ GE264.out | refine below_set ?_ GE269.out | refine below_set ?_ GE274.out) | exact HB.out)⟩
              ·rw [if_neg c141] at H
               have c141b0 : (a2_1 == 0) = false := beq_eq_false_iff_ne.mpr c141
               have c141b1 : (a2_1 != 0) = true := bne_iff_ne.mpr c141
               replace H := Option.bind_eq_some_iff.mp H
               obtain ⟨t298, A1830, H⟩ := H
               replace H : (some t298) = some r := H
               have A183 := Aside0.mk A1830
               clear A1830
               obtain rfl := Option.some.inj H
               have hnb184 := NB264_263.out
               have hnc184 := NB263_264.out
               have hnb185 := NB264_269.out
               have hnc185 := NB269_264.out
               have hnb186 := NB264_274.out
               have hnc186 := NB274_264.out
               have hcz187_0 : wc.cell? ⟨gb264, 0, none⟩ = some (.int .i64 a2_0) := (blk_cell BK264.out 0).trans rfl
               have hcz187_1 : wc.cell? ⟨gb264, 1, none⟩ = some (.int .i64 a2_1) := (blk_cell BK264.out 1).trans rfl
               have hcz187_2 : wc.cell? ⟨gb264, 2, none⟩ = some (.int .i64 a2_2) := (blk_cell BK264.out 2).trans rfl
               have hfz187_0 := blk_frozen BK264.out 0
               have hfz187_1 := blk_frozen BK264.out 1
               have hfz187_2 := blk_frozen BK264.out 2
               go_wp2_with (first | (go_at_call 7; (with_reducible refine (touchstonelaw05_alive.calls  t298 _ ?side1 A183.out).mono ?_); (case side1 => exact EnvOk.below HE.out (by repeat (first | (with_reducible first | exact HB.out | apply below_alloc | apply pw_below_drewN | apply below_drew1 | refine below_set ?_ GE263.out | refine below_set ?_ GE264.out | refine below_set ?_ GE269.out | refine below_set ?_ GE274.out) | exact HB.out))); rintro e w188 ⟨rfl, hb⟩; have n0_ := Aside0.mk (blk_below (g := gb263) (o := .cells #[.int .i64 a0_0, .int .i64 a0_1, .int .i64 a0_2] 23 (0, 0)) (by (with_reducible repeat (first | refine blk_drewN ?_ _ | refine blk_drew ?_ | refine blk_alloc ?_ _)); exact BK263.out) hb); have n1_ := Aside0.mk (blk_below (g := gb264) (o := .cells #[.int .i64 a2_0, .int .i64 a2_1, .int .i64 a2_2] 23 (0, 0)) (by (with_reducible repeat (first | refine blk_drewN ?_ _ | refine blk_drew ?_ | refine blk_alloc ?_ _)); exact BK264.out) hb); have n2_ := Aside0.mk (blk_below (g := gb269) (o := .cells #[.int .i64 t265, .int .i64 t266, .int .i64 t267] 23 (0, 0)) (by (with_reducible repeat (first | refine blk_drewN ?_ _ | refine blk_drew ?_ | refine blk_alloc ?_ _)); exact BK269.out) hb); have n3_ := Aside0.mk (blk_below (g := gb274) (o := .cells #[.int .i64 t270, .int .i64 t271, .int .i64 t272] 23 (0, 0)) (by (with_reducible repeat (first | refine blk_drewN ?_ _ | refine blk_drew ?_ | refine blk_alloc ?_ _)); exact BK274.out) hb); have n4_ := Aside0.mk (below_step (by repeat (first | (with_reducible first | exact HB.out | apply below_alloc | apply pw_below_drewN | apply below_drew1 | refine below_set ?_ GE263.out | refine below_set ?_ GE264.out | refine below_set ?_ GE269.out | refine below_set ?_ GE274.out) | exact HB.out)) hb); clear BK263; clear BK264; clear BK269; clear BK274; clear HB; have BK263 := n0_; have BK264 := n1_; have BK269 := n2_; have BK274 := n3_; have HB := n4_; clear n0_ n1_ n2_ n3_ n4_; (try clear hb); (try clear hb2); (try clear hk); (try clear hi)))
               go_ret
               exact ⟨by first | rfl | (simp [errW_none, errW_some] <;> rfl) | (simp [*, errW_none, errW_some] <;> rfl), by repeat (first | (with_reducible first | exact HB.out | apply below_alloc | apply pw_below_drewN | apply below_drew1 | refine below_set ?_ GE263.out | refine below_set ?_ GE264.out | refine below_set ?_ GE269.out | refine below_set ?_ GE274.out) | exact HB.out)⟩
            ·rw [if_neg c98] at H
             have c98b0 : (a2_2 == 0) = false := beq_eq_false_iff_ne.mpr c98
             have c98b1 : (a2_2 != 0) = true := bne_iff_ne.mpr c98
             replace H := Option.bind_eq_some_iff.mp H
             obtain ⟨t299, A1890, H⟩ := H
             replace H : (some t299) = some r := H
             have A189 := Aside0.mk A1890
             clear A1890
             obtain rfl := Option.some.inj H
             have hnb190 := NB264_263.out
             have hnc190 := NB263_264.out
             have hnb191 := NB264_269.out
             have hnc191 := NB269_264.out
             have hnb192 := NB264_274.out
             have hnc192 := NB274_264.out
             have hcz193_0 : wc.cell? ⟨gb264, 0, none⟩ = some (.int .i64 a2_0) := (blk_cell BK264.out 0).trans rfl
             have hcz193_1 : wc.cell? ⟨gb264, 1, none⟩ = some (.int .i64 a2_1) := (blk_cell BK264.out 1).trans rfl
             have hcz193_2 : wc.cell? ⟨gb264, 2, none⟩ = some (.int .i64 a2_2) := (blk_cell BK264.out 2).trans rfl
             have hfz193_0 := blk_frozen BK264.out 0
             have hfz193_1 := blk_frozen BK264.out 1
             have hfz193_2 := blk_frozen BK264.out 2
             go_wp2_with (first | (go_at_call 7; (with_reducible refine (touchstonelaw05_alive.calls  t299 _ ?side1 A189.out).mono ?_); (case side1 => exact EnvOk.below HE.out (by repeat (first | (with_reducible first | exact HB.out | apply below_alloc | apply pw_below_drewN | apply below_drew1 | refine below_set ?_ GE263.out | refine below_set ?_ GE264.out | refine below_set ?_ GE269.out | refine below_set ?_ GE274.out) | exact HB.out))); rintro e w194 ⟨rfl, hb⟩; have n0_ := Aside0.mk (blk_below (g := gb263) (o := .cells #[.int .i64 a0_0, .int .i64 a0_1, .int .i64 a0_2] 23 (0, 0)) (by (with_reducible repeat (first | refine blk_drewN ?_ _ | refine blk_drew ?_ | refine blk_alloc ?_ _)); exact BK263.out) hb); have n1_ := Aside0.mk (blk_below (g := gb264) (o := .cells #[.int .i64 a2_0, .int .i64 a2_1, .int .i64 a2_2] 23 (0, 0)) (by (with_reducible repeat (first | refine blk_drewN ?_ _ | refine blk_drew ?_ | refine blk_alloc ?_ _)); exact BK264.out) hb); have n2_ := Aside0.mk (blk_below (g := gb269) (o := .cells #[.int .i64 t265, .int .i64 t266, .int .i64 t267] 23 (0, 0)) (by (with_reducible repeat (first | refine blk_drewN ?_ _ | refine blk_drew ?_ | refine blk_alloc ?_ _)); exact BK269.out) hb); have n3_ := Aside0.mk (blk_below (g := gb274) (o := .cells #[.int .i64 t270, .int .i64 t271, .int .i64 t272] 23 (0, 0)) (by (with_reducible repeat (first | refine blk_drewN ?_ _ | refine blk_drew ?_ | refine blk_alloc ?_ _)); exact BK274.out) hb); have n4_ := Aside0.mk (below_step (by repeat (first | (with_reducible first | exact HB.out | apply below_alloc | apply pw_below_drewN | apply below_drew1 | refine below_set ?_ GE263.out | refine below_set ?_ GE264.out | refine below_set ?_ GE269.out | refine below_set ?_ GE274.out) | exact HB.out)) hb); clear BK263; clear BK264; clear BK269; clear BK274; clear HB; have BK263 := n0_; have BK264 := n1_; have BK269 := n2_; have BK274 := n3_; have HB := n4_; clear n0_ n1_ n2_ n3_ n4_; (try clear hb); (try clear hb2); (try clear hk); (try clear hi)))
             go_ret
             exact ⟨by first | rfl | (simp [errW_none, errW_some] <;> rfl) | (simp [*, errW_none, errW_some] <;> rfl), by repeat (first | (with_reducible first | exact HB.out | apply below_alloc | apply pw_below_drewN | apply below_drew1 | refine below_set ?_ GE263.out | refine below_set ?_ GE264.out | refine below_set ?_ GE269.out | refine below_set ?_ GE274.out) | exact HB.out)⟩
        ·rw [if_neg c39] at H
         have c39b0 : (t278 == a1) = false := beq_eq_false_iff_ne.mpr c39
         have c39b1 : (t278 != a1) = true := bne_iff_ne.mpr c39
         exact absurd ((Option.some.inj H).trans HRT.out) (by decide)

end Go.Proofs.YtaikpnenegifnaaDoor.XM
