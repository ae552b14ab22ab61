import Derived.Test.YtaikpnenegifnaaGreatDoorG8
import Derived.Test.YtaikpnenegifnaaGreatDoorG0
import Derived.Test.YtaikpnenegifnaaGreatDoorXLx6
import Derived.Deep.QuietTactic
import Derived.BigQuiet
import Derived.Test.YtaikpnenegifnaaGreatDoorHOneWL
/- lex.run at the four functions that lex hands to it: the length of the longest beginning whose bytes satisfy the function. -/
namespace Go.Proofs.YtaikpnenegifnaaGreatDoor
set_option linter.unusedVariables false
open Go.RowKit Go.Proofs.YtaikpnenegifnaaGreatDoorW.PrintWords Go.Proofs.YtaikpnenegifnaaGreatDoor.XL
/-- A byte of a version's run: a digit or a point. -/
def isP (b : UInt8) : Bool := isD b || b == 46

theorem of_byte {c : Int} (h0 : 0 ≤ c) (h1 : c ≤ 255) : ((UInt8.ofNat c.toNat).toNat : Int) = c := by
  rw [UInt8.toNat_ofNat_of_lt' (by show c.toNat < 256; omega)]; omega
theorem of_byteN {c : Int} (h0 : 0 ≤ c) (h1 : c ≤ 255) : (UInt8.ofNat c.toNat).toNat = c.toNat := by
  rw [UInt8.toNat_ofNat_of_lt' (by show c.toNat < 256; omega)]
theorem u8_eq {b : UInt8} {n : Nat} (hn : n < 256) : (b == UInt8.ofNat n) = decide (b.toNat = n) := by
  rw [Bool.eq_iff_iff]
  simp only [beq_iff_eq, decide_eq_true_eq]
  constructor
  · intro h; rw [h, UInt8.toNat_ofNat_of_lt' (by show n < 256; omega)]
  · intro h; apply UInt8.toNat_inj.1; rw [h, UInt8.toNat_ofNat_of_lt' (by show n < 256; omega)]

theorem digit_f {c : Int} (h0 : 0 ≤ c) (h1 : c ≤ 255) : lex_digit.f c = some (isD (UInt8.ofNat c.toNat)) := by
  unfold lex_digit.f isD
  rw [of_byteN h0 h1]
  by_cases h : c ≥ 48
  · rw [if_pos h]; congr 1; rw [Bool.eq_iff_iff]; simp; omega
  · rw [if_neg h]; congr 1; symm; rw [Bool.eq_false_iff]; simp; omega
theorem small_f {c : Int} (h0 : 0 ≤ c) (h1 : c ≤ 255) : lex_small.f c = some (isS (UInt8.ofNat c.toNat)) := by
  unfold lex_small.f isS
  rw [of_byteN h0 h1]
  by_cases h : c ≥ 97
  · rw [if_pos h]; congr 1; rw [Bool.eq_iff_iff]; simp; omega
  · rw [if_neg h]; congr 1; symm; rw [Bool.eq_false_iff]; simp; omega
theorem great_f {c : Int} (h0 : 0 ≤ c) (h1 : c ≤ 255) : lex_great.f c = some (isG (UInt8.ofNat c.toNat)) := by
  unfold lex_great.f isG
  rw [of_byteN h0 h1]
  by_cases h : c ≥ 65
  · rw [if_pos h]; congr 1; rw [Bool.eq_iff_iff]; simp; omega
  · rw [if_neg h]; congr 1; symm; rw [Bool.eq_false_iff]; simp; omega
theorem byte_is {c : Int} (h0 : 0 ≤ c) (h1 : c ≤ 255) (n : Nat) (hn : n < 256) : (UInt8.ofNat c.toNat == UInt8.ofNat n) = decide (c = n) := by
  rw [u8_eq hn, of_byteN h0 h1]
  congr 1
  rw [eq_iff_iff]; omega
theorem named_f {c : Int} (h0 : 0 ≤ c) (h1 : c ≤ 255) : lex_named.f c = some (isN (UInt8.ofNat c.toNat)) := by
  unfold lex_named.f isN isV
  have e95 : (UInt8.ofNat c.toNat == 95) = decide (c = 95) := byte_is h0 h1 95 (by decide)
  have e39 : (UInt8.ofNat c.toNat == 39) = decide (c = 39) := byte_is h0 h1 39 (by decide)
  rw [small_f h0 h1, great_f h0 h1, digit_f h0 h1, e95, e39]
  simp only [Option.bind_some]
  cases isS (UInt8.ofNat c.toNat) <;> cases isG (UInt8.ofNat c.toNat) <;> cases isD (UInt8.ofNat c.toNat) <;> simp
  by_cases h : c = 95 <;> simp [h]
  by_cases h : c = 39 <;> simp [h]

theorem named_walk (c : Int) (W : World) (h0 : 0 ≤ c) (h1 : c ≤ 255) : Calls Tryz.prog 79 #[.int .u8 c] W fun e w' => e = .returned (.bool (isN (UInt8.ofNat c.toNat))) ∧ Drawn0 W w' :=
  lex_named.calls c _ W (named_f h0 h1)
theorem digit_walk (c : Int) (W : World) (h0 : 0 ≤ c) (h1 : c ≤ 255) : Calls Tryz.prog 53 #[.int .u8 c] W fun e w' => e = .returned (.bool (isD (UInt8.ofNat c.toNat))) ∧ Drawn0 W w' :=
  lex_digit.calls c _ W (digit_f h0 h1)
theorem isV_isN (b : UInt8) : isV b = (isN b && !(b == 39)) := by
  unfold isN
  by_cases h : b = 39
  · subst h; decide
  · have : (b == 39) = false := by simpa using h
    rw [this]; simp
set_option maxHeartbeats 1000000 in
theorem var_walk (c : Int) (W : World) (h0 : 0 ≤ c) (h1 : c ≤ 255) : Calls Tryz.prog 80 #[.int .u8 c] W fun e w' => e = .returned (.bool (isV (UInt8.ofNat c.toNat))) ∧ Drawn0 W w' := by
  have e39 : (UInt8.ofNat c.toNat == 39) = decide (c = 39) := byte_is h0 h1 39 (by decide)
  rw [isV_isN, e39]
  have hw := fun W => named_walk c W h0 h1
  cases hN : isN (UInt8.ofNat c.toNat) with
  | false =>
    rw [hN] at hw
    have HW := Aside0.mk hw
    clear hw hN
    rw [Bool.false_and]
    go_enter Tryz.func80, Tryz.ntmps80
    go_wp2_with (go_at_call 79; refine (HW.out _).mono ?_; rintro e w' ⟨rfl, nd, rfl⟩)
    go_ret
    first
      | exact ⟨rfl, ⟨nd, rfl⟩⟩
      | exact ⟨by rw [ret_bool]; rfl, ⟨nd, rfl⟩⟩
  | true =>
    rw [hN] at hw
    have HW := Aside0.mk hw
    clear hw hN
    rw [Bool.true_and]
    go_enter Tryz.func80, Tryz.ntmps80
    go_wp2_with (go_at_call 79; refine (HW.out _).mono ?_; rintro e w' ⟨rfl, nd, rfl⟩)
    go_ret
    first
      | exact ⟨rfl, ⟨nd, rfl⟩⟩
      | exact ⟨by rw [ret_bool]; rfl, ⟨nd, rfl⟩⟩
set_option maxHeartbeats 1000000 in
theorem ver_walk (c : Int) (W : World) (h0 : 0 ≤ c) (h1 : c ≤ 255) : Calls Tryz.prog 110 #[.int .u8 c] W fun e w' => e = .returned (.bool (isP (UInt8.ofNat c.toNat))) ∧ Drawn0 W w' := by
  unfold isP
  have e46 : (UInt8.ofNat c.toNat == 46) = decide (c = 46) := byte_is h0 h1 46 (by decide)
  rw [e46]
  have hw := fun W => digit_walk c W h0 h1
  cases hN : isD (UInt8.ofNat c.toNat) with
  | false =>
    rw [hN] at hw
    have HW := Aside0.mk hw
    clear hw hN
    rw [Bool.false_or]
    go_enter Tryz.func110, Tryz.ntmps110
    go_wp2_with (go_at_call 53; refine (HW.out _).mono ?_; rintro e w' ⟨rfl, nd, rfl⟩)
    go_ret
    first
      | exact ⟨rfl, ⟨nd, rfl⟩⟩
      | exact ⟨by rw [ret_bool]; rfl, ⟨nd, rfl⟩⟩
  | true =>
    rw [hN] at hw
    have HW := Aside0.mk hw
    clear hw hN
    rw [Bool.true_or]
    go_enter Tryz.func110, Tryz.ntmps110
    go_wp2_with (go_at_call 53; refine (HW.out _).mono ?_; rintro e w' ⟨rfl, nd, rfl⟩)
    go_ret
    first
      | exact ⟨rfl, ⟨nd, rfl⟩⟩
      | exact ⟨by rw [ret_bool]; rfl, ⟨nd, rfl⟩⟩

def lex_run.f (a0 : ByteArray) (g : Nat) : Option Int :=
  if a0.size ≤ 1000000 then
    (if g = 79 then some ((a0.data.toList.takeWhile isN).length : Nat)
     else if g = 80 then some ((a0.data.toList.takeWhile isV).length : Nat)
     else if g = 53 then some ((a0.data.toList.takeWhile isD).length : Nat)
     else if g = 110 then some ((a0.data.toList.takeWhile isP).length : Nat)
     else none)
  else none
theorem lex_run.calls (a0 : ByteArray) (g : Nat) (r : Int) (w : World) (h : lex_run.f a0 g = some r) :
    Calls Tryz.prog 78 #[.string a0, .func (.func g) #[] #[]] w fun e w' => e = .returned (.int .i64 r) ∧ Drawn0 w w' := by
  unfold lex_run.f at h
  split at h
  · rename_i hs
    split at h
    · rename_i e; subst e
      obtain rfl := Option.some.inj h
      exact run_walk _ isN named_walk (enters_of Tryz.func79 (by kernel_rfl) rfl) a0 hs w
    · split at h
      · rename_i e; subst e
        obtain rfl := Option.some.inj h
        exact run_walk _ isV var_walk (enters_of Tryz.func80 (by kernel_rfl) rfl) a0 hs w
      · split at h
        · rename_i e; subst e
          obtain rfl := Option.some.inj h
          exact run_walk _ isD digit_walk (enters_of Tryz.func53 (by kernel_rfl) rfl) a0 hs w
        · split at h
          · rename_i e; subst e
            obtain rfl := Option.some.inj h
            exact run_walk _ isP ver_walk (enters_of Tryz.func110 (by kernel_rfl) rfl) a0 hs w
          · cases h
  · cases h
end Go.Proofs.YtaikpnenegifnaaGreatDoor

-- written by wip/xp.py, a program of this project's session, over the kit's printer
namespace Go.Proofs.YtaikpnenegifnaaGreatDoor.XL
open Go.RowKit Go.Proofs.YtaikpnenegifnaaGreatDoorW.PrintWords Go.Proofs.YtaikpnenegifnaaGreatDoorW.PrintLast Go.Proofs.YtaikpnenegifnaaGreatDoorW.PrintMore
attribute [local go_sem] max2_int min2_int max_two min_two max_three min_three max_four min_four   -- for this text's walks alone
set_option linter.unusedVariables false
set_option linter.unusedSimpArgs false

/-! ### lex_version: function 82 -/
def lex_version.l0 : Nat → ByteArray → Int → Option (Int × ByteArray × Int × Int × Int × Bool)
  | 0, _, _ => none
  | k + 1, x0, x5 => if x5 > 0 then (if 0 ≤ x5 then (if x5 ≤ (x0.size : Int) then ((semver_Parse.f (x0.extract 0 (x5 : Int).toNat)).bind fun bt297 => (if bt297.2.2.2 = 0 then (some (6, x0.extract 0 (x5 : Int).toNat, 0, 0, x5, true)) else (lex_version.l0 k x0 (wrap64 (x5 - 1))))) else (none)) else (none)) else (some (0, (⟨#[]⟩ : ByteArray), 0, 0, 0, false))
def lex_version.f (k : Nat) (a0 : ByteArray) : Option (Int × ByteArray × Int × Int × Int × Bool) := (lex_run.f a0 110).bind fun t296 => (lex_version.l0 k a0 t296)
theorem lex_version.mono_l : ∀ k, (∀ y0 y1, LeO (lex_version.l0 k y0 y1) (lex_version.l0 (k + 1) y0 y1))
  | 0 => fun _ _ r h => by simp [lex_version.l0] at h
  | k + 1 => by
    have ih0 := lex_version.mono_l k
    · intro y0 y1
      unfold lex_version.l0
      repeat' first
      | (with_reducible exact ih0 _ _)
      | (with_reducible exact LeO.refl _)
      | (with_reducible exact LeO.none _)
      | (with_reducible refine LeO.ite ?_ ?_)
      | (with_reducible refine LeO.bind ?_ (fun _ => ?_))
      | exact ih0 _ _
      | exact LeO.none _
      | refine LeO.ite ?_ ?_
      | refine LeO.bind ?_ (fun _ => ?_)
theorem lex_version.mono : ∀ a0 k, LeO (lex_version.f k a0) (lex_version.f (k + 1) a0) := by
  intro a0 k
  have ih0 := lex_version.mono_l k
  unfold lex_version.f
  repeat' first
      | (with_reducible exact ih0 _ _)
      | (with_reducible exact LeO.refl _)
      | (with_reducible exact LeO.none _)
      | (with_reducible refine LeO.ite ?_ ?_)
      | (with_reducible refine LeO.bind ?_ (fun _ => ?_))
      | exact ih0 _ _
      | exact LeO.none _
      | refine LeO.ite ?_ ?_
      | refine LeO.bind ?_ (fun _ => ?_)
set_option maxHeartbeats 8000000 in
set_option maxRecDepth 100000 in
theorem lex_version.calls (k : Nat) (a0 : ByteArray) (r1 : Int) (r2 : ByteArray) (r3 : Int) (r4 : Int) (r5 : Int) (r6 : Bool) (w : World) (hE : EnvOk w) (h : lex_version.f k a0 = some (r1, r2, r3, r4, r5, r6)) :
    Calls Tryz.prog 82 #[.string a0] w fun e w' => e = .returned (.tuple #[.agg #[.int .i64 r1, .string r2, .int .i64 r3, .int .i64 r4], .int .i64 r5, .bool r6]) ∧ Below w.heap.size w w' := by
  have hu32 := Tryz.underlying32
  have hu44 := Tryz.underlying44
  have HE := Aside0.mk hE
  clear hE
  have HB := Aside0.mk (Below.refl w.heap.size w)
  have H : ((lex_run.f a0 110).bind fun t296 => (lex_version.l0 k a0 t296)) = some (r1, r2, r3, r4, r5, r6) := h
  clear h
  replace H := Option.bind_eq_some_iff.mp H
  obtain ⟨t296, A20, H⟩ := H
  replace H : (lex_version.l0 k a0 t296) = some (r1, r2, r3, r4, r5, r6) := H
  have A2 := Aside0.mk A20
  clear A20
  have H' := Aside0.mk H
  clear H
  go_enter Tryz.func82, Tryz.ntmps82
  go_wp2_with (first | ((with_reducible refine gate_dst (N := 2) rfl ?_); refine box_event ?hg (N := 2) ?hd (cs := #[.int .i64 0, .string (⟨#[]⟩ : ByteArray), .int .i64 0, .int .i64 0]) (t := 32) ?hr ?_; (case hd => rfl); (case hg => rfl); (case hr => first | (go_simp; done) | (go_simp; rfl)); intro gb295 hg w3 hbox hb; have n0_ := Aside0.mk (below_step (by repeat (first | (with_reducible first | exact HB.out | apply below_alloc | apply pw_below_drewN | apply below_drew1) | exact HB.out)) hb); have n1_ := Aside0.mk (hbox); have n2_ := Aside0.mk ((by rw [hg]; exact (below_size (by repeat (first | (with_reducible first | exact HB.out | apply below_alloc | apply pw_below_drewN | apply below_drew1) | exact HB.out))) : w.heap.size ≤ gb295)); have n3_ := Aside0.mk ((by rw [hg]; exact (below_size (by repeat (first | (with_reducible first | exact HB.out | apply below_alloc | apply pw_below_drewN | apply below_drew1) | exact HB.out))) : w.heap.size ≤ gb295)); clear HB; have HB := n0_; have BK295 := n1_; have GW295 := n2_; have GE295 := n3_; clear n0_ n1_ n2_ n3_; clear hb hbox hg) | ((with_reducible refine gate_callee (f := 78) rfl ?_); refine goesL_ (some 9) rfl rfl Tryz.func78 (by kernel_rfl) rfl #[.string a0, .func (.func 110) #[] #[]] rfl (by (try simp only [List.map_toArray, List.map_cons, List.map_nil]); first | done | rfl | (simp only [List.length_drop, List.length_take]; rfl)) ?_; (with_reducible refine (lex_run.calls a0 110 t296 _ A2.out).mono ?_); rintro e w' ⟨rfl, ⟨nd, rfl⟩⟩; refine ⟨_, rfl, ?_⟩))
  go_loopg [5] k (fun kq v5 w' => ∃ (x5_1 : Int) (x296000_1 : Int) (x296001_1 : ByteArray) (x296002_1 : Int) (x296003_1 : Int), v5 = .int .i64 x5_1 ∧ Aside0 (lex_version.l0 kq a0 x5_1 = some (r1, r2, r3, r4, r5, r6)) ∧ Aside0 (kq ≤ k) ∧ Aside0 (w'.heap[gb295]? = some (.cells #[.int .i64 x296000_1, .string x296001_1, .int .i64 x296002_1, .int .i64 x296003_1] 32 (0, 0))) ∧ Aside0 (Below w.heap.size w w'))
  case atStart => exact ⟨(t296), (0), ((⟨#[]⟩ : ByteArray)), (0), (0), (by first | rfl | (simp; done) | (simp [*]; done)), H', ⟨Nat.le_refl _⟩, ⟨by (with_reducible repeat (first | refine blk_drewN ?_ _ | refine blk_drew ?_ | refine blk_alloc ?_ _)); exact BK295.out⟩, ⟨by repeat (first | (with_reducible first | exact HB.out | apply below_alloc | apply pw_below_drewN | apply below_drew1 | refine below_set ?_ GE295.out) | exact HB.out)⟩⟩
  case round =>
   clear H'
   try clear p2
   obtain ⟨x5_1, x296000_1, x296001_1, x296002_1, x296003_1, rfl, HA, HK1, BK295, HB⟩ := hrel
   cases gk with
   | zero => exact absurd HA.out (by simp [lex_version.l0])
   | succ k1 =>
    have H := HA.out
    clear HA
    simp only [lex_version.l0] at H
    by_cases c4 : x5_1 > 0
    ·rw [if_pos c4] at H
     have c4b0 : decide (0 < x5_1) = true := decide_eq_true c4
     clear c4
     by_cases c5 : 0 ≤ x5_1
     ·rw [if_pos c5] at H
      have c5b0 := eq_true c5
      have c5b1 : decide (0 ≤ x5_1) = true := decide_eq_true c5
      clear c5
      by_cases c6 : x5_1 ≤ (a0.size : Int)
      ·rw [if_pos c6] at H
       have c6b0 := eq_true c6
       have c6b1 : decide (x5_1 ≤ (a0.size : Int)) = true := decide_eq_true c6
       clear c6
       replace H := Option.bind_eq_some_iff.mp H
       obtain ⟨⟨t297, t298, t299, t300⟩, A70, H⟩ := H
       replace H : (if t300 = 0 then (some (6, a0.extract 0 (x5_1 : Int).toNat, 0, 0, x5_1, true)) else (lex_version.l0 k1 a0 (wrap64 (x5_1 - 1)))) = some (r1, r2, r3, r4, r5, r6) := H
       have A7 := Aside0.mk A70
       clear A70
       by_cases c8 : t300 = 0
       ·rw [if_pos c8] at H
        have c8b0 : (t300 == 0) = true := beq_iff_eq.mpr c8
        have c8b1 : (t300 != 0) = false := bne_eq_false_iff_eq.mpr c8
        clear c8
        have c9b0 := eq_true (of_decide_eq_true (by first | (with_reducible assumption) | assumption) : 0 ≤ x5_1)
        have c10b0 := eq_true (of_decide_eq_true (by first | (with_reducible assumption) | assumption) : x5_1 ≤ (a0.size : Int))
        simp only [Option.some.injEq, Prod.mk.injEq] at H
        obtain ⟨rfl, rfl, rfl, rfl, rfl, rfl⟩ := H
        go_wp2_with (first | ((with_reducible refine gate_callee (f := 34) rfl ?_); refine goesL_ (some 16) rfl rfl Tryz.func34 (by kernel_rfl) rfl #[.string (a0.extract 0 (x5_1 : Int).toNat)] rfl (by (try simp only [List.map_toArray, List.map_cons, List.map_nil]); first | done | rfl | (simp only [List.length_drop, List.length_take]; rfl)) ?_; (with_reducible refine (semver_Parse.calls (a0.extract 0 (x5_1 : Int).toNat) t297 t298 t299 t300 _ ?side1 A7.out).mono ?_); (case side1 => exact EnvOk.below HE.out (by repeat (first | (with_reducible first | exact HB.out | apply below_alloc | apply pw_below_drewN | apply below_drew1 | refine below_set ?_ GE295.out) | exact HB.out))); rintro e w11 ⟨rfl, hb⟩; refine ⟨_, rfl, ?_⟩; have n0_ := Aside0.mk (blk_below (g := gb295) (o := .cells #[.int .i64 x296000_1, .string x296001_1, .int .i64 x296002_1, .int .i64 x296003_1] 32 (0, 0)) (by (with_reducible repeat (first | refine blk_drewN ?_ _ | refine blk_drew ?_ | refine blk_alloc ?_ _)); exact BK295.out) hb); have n1_ := Aside0.mk (below_step (by repeat (first | (with_reducible first | exact HB.out | apply below_alloc | apply pw_below_drewN | apply below_drew1 | refine below_set ?_ GE295.out) | exact HB.out)) hb); clear BK295; clear HB; have BK295 := n0_; have HB := n1_; clear n0_ n1_; (try clear hb); (try clear hb2); (try clear hk); (try clear hi)) | ((with_reducible refine gate_dst (N := 6) rfl ?_); refine box_event ?hg (N := 6) ?hd (cs := #[.int .i64 0, .int .i64 0, .int .i64 0]) (t := 44) ?hr ?_; (case hd => rfl); (case hg => rfl); (case hr => first | (go_simp; done) | (go_simp; rfl)); intro gb301 hg w12 hbox hb; have n0_ := Aside0.mk (blk_below (g := gb295) (o := .cells #[.int .i64 x296000_1, .string x296001_1, .int .i64 x296002_1, .int .i64 x296003_1] 32 (0, 0)) (by (with_reducible repeat (first | refine blk_drewN ?_ _ | refine blk_drew ?_ | refine blk_alloc ?_ _)); exact BK295.out) hb); have n1_ := Aside0.mk (below_step (by repeat (first | (with_reducible first | exact HB.out | apply below_alloc | apply pw_below_drewN | apply below_drew1 | refine below_set ?_ GE295.out) | exact HB.out)) hb); have n2_ := Aside0.mk (hbox); have n3_ := Aside0.mk ((by rw [hg]; exact (below_size (by repeat (first | (with_reducible first | exact HB.out | apply below_alloc | apply pw_below_drewN | apply below_drew1 | refine below_set ?_ GE295.out) | exact HB.out))) : w.heap.size ≤ gb301)); have n4_ := Aside0.mk ((by rw [hg]; exact (below_size (by repeat (first | (with_reducible first | exact HB.out | apply below_alloc | apply pw_below_drewN | apply below_drew1 | refine below_set ?_ GE295.out) | exact HB.out))) : w.heap.size ≤ gb301)); have n5_ := Aside0.mk ((by rw [hg]; exact Nat.ne_of_lt (blk_lt (g := gb295) (o := .cells #[.int .i64 x296000_1, .string x296001_1, .int .i64 x296002_1, .int .i64 x296003_1] 32 (0, 0)) (by (with_reducible repeat (first | refine blk_drewN ?_ _ | refine blk_drew ?_ | refine blk_alloc ?_ _)); exact BK295.out)) : gb295 ≠ gb301)); have n6_ := Aside0.mk ((by rw [hg]; exact Nat.ne_of_gt (blk_lt (g := gb295) (o := .cells #[.int .i64 x296000_1, .string x296001_1, .int .i64 x296002_1, .int .i64 x296003_1] 32 (0, 0)) (by (with_reducible repeat (first | refine blk_drewN ?_ _ | refine blk_drew ?_ | refine blk_alloc ?_ _)); exact BK295.out)) : gb301 ≠ gb295)); clear BK295; clear HB; have BK295 := n0_; have HB := n1_; have BK301 := n2_; have GW301 := n3_; have GE301 := n4_; have NB295_301 := n5_; have NB301_295 := n6_; clear n0_ n1_ n2_ n3_ n4_ n5_ n6_; clear hb hbox hg; have hnb13 := NB301_295.out; have hnc13 := NB295_301.out; have hcz14_0 : w12.cell? ⟨gb301, 0, none⟩ = some (.int .i64 0) := (blk_cell BK301.out 0).trans rfl; have hcz14_1 : w12.cell? ⟨gb301, 1, none⟩ = some (.int .i64 0) := (blk_cell BK301.out 1).trans rfl; have hcz14_2 : w12.cell? ⟨gb301, 2, none⟩ = some (.int .i64 0) := (blk_cell BK301.out 2).trans rfl; have hfz14_0 := blk_frozen BK301.out 0; have hfz14_1 := blk_frozen BK301.out 1; have hfz14_2 := blk_frozen BK301.out 2; have hcz15_0 : w12.cell? ⟨gb295, 0, none⟩ = some (.int .i64 x296000_1) := (blk_cell BK295.out 0).trans rfl; have hcz15_1 : w12.cell? ⟨gb295, 1, none⟩ = some (.string x296001_1) := (blk_cell BK295.out 1).trans rfl; have hcz15_2 : w12.cell? ⟨gb295, 2, none⟩ = some (.int .i64 x296002_1) := (blk_cell BK295.out 2).trans rfl; have hcz15_3 : w12.cell? ⟨gb295, 3, none⟩ = some (.int .i64 x296003_1) := (blk_cell BK295.out 3).trans rfl; have hfz15_0 := blk_frozen BK295.out 0; have hfz15_1 := blk_frozen BK295.out 1; have hfz15_2 := blk_frozen BK295.out 2; have hfz15_3 := blk_frozen BK295.out 3))
        refine bodyPost_ret (results_ctt rfl _ _ gb295 32 #[.int .i64 6, .string (a0.extract 0 (x5_1 : Int).toNat), .int .i64 0, .int .i64 0] (0, 0) _ rfl (by (with_reducible repeat (first | refine blk_drewN ?_ _ | refine blk_drew ?_ | refine blk_alloc ?_ _)); refine blk_put (cs := #[.int .i64 6, .string (a0.extract 0 (x5_1 : Int).toNat), .int .i64 0, .int .i64 x296003_1]) ?_ 3 _ rfl; (with_reducible repeat (first | refine blk_drewN ?_ _ | refine blk_drew ?_ | refine blk_alloc ?_ _)); refine blk_put (cs := #[.int .i64 6, .string (a0.extract 0 (x5_1 : Int).toNat), .int .i64 x296002_1, .int .i64 x296003_1]) ?_ 2 _ rfl; (with_reducible repeat (first | refine blk_drewN ?_ _ | refine blk_drew ?_ | refine blk_alloc ?_ _)); refine blk_put (cs := #[.int .i64 6, .string x296001_1, .int .i64 x296002_1, .int .i64 x296003_1]) ?_ 1 _ rfl; (with_reducible repeat (first | refine blk_drewN ?_ _ | refine blk_drew ?_ | refine blk_alloc ?_ _)); refine blk_put (cs := #[.int .i64 x296000_1, .string x296001_1, .int .i64 x296002_1, .int .i64 x296003_1]) ?_ 0 _ rfl; (with_reducible repeat (first | refine blk_drewN ?_ _ | refine blk_drew ?_ | refine blk_alloc ?_ _)); refine blk_far ?_ NB295_301.out _; (with_reducible repeat (first | refine blk_drewN ?_ _ | refine blk_drew ?_ | refine blk_alloc ?_ _)); refine blk_far ?_ NB295_301.out _; (with_reducible repeat (first | refine blk_drewN ?_ _ | refine blk_drew ?_ | refine blk_alloc ?_ _)); refine blk_far ?_ NB295_301.out _; (with_reducible repeat (first | refine blk_drewN ?_ _ | refine blk_drew ?_ | refine blk_alloc ?_ _)); exact BK295.out) Tryz.underlying32 rfl (by kernel_rfl)) rfl ?_
        exact ⟨by first | rfl | (simp [errW_none, errW_some] <;> rfl) | (simp [*, errW_none, errW_some] <;> rfl), by repeat (first | (with_reducible first | exact HB.out | apply below_alloc | apply pw_below_drewN | apply below_drew1 | refine below_set ?_ GE295.out | refine below_set ?_ GE301.out) | exact HB.out)⟩
       ·rw [if_neg c8] at H
        have c8b0 : (t300 == 0) = false := beq_eq_false_iff_ne.mpr c8
        have c8b1 : (t300 != 0) = true := bne_iff_ne.mpr c8
        have H' := Aside0.mk H
        clear H
        go_wp2_with (first | ((with_reducible refine gate_callee (f := 34) rfl ?_); refine goesL_ (some 16) rfl rfl Tryz.func34 (by kernel_rfl) rfl #[.string (a0.extract 0 (x5_1 : Int).toNat)] rfl (by (try simp only [List.map_toArray, List.map_cons, List.map_nil]); first | done | rfl | (simp only [List.length_drop, List.length_take]; rfl)) ?_; (with_reducible refine (semver_Parse.calls (a0.extract 0 (x5_1 : Int).toNat) t297 t298 t299 t300 _ ?side1 A7.out).mono ?_); (case side1 => exact EnvOk.below HE.out (by repeat (first | (with_reducible first | exact HB.out | apply below_alloc | apply pw_below_drewN | apply below_drew1 | refine below_set ?_ GE295.out) | exact HB.out))); rintro e w16 ⟨rfl, hb⟩; refine ⟨_, rfl, ?_⟩; have n0_ := Aside0.mk (blk_below (g := gb295) (o := .cells #[.int .i64 x296000_1, .string x296001_1, .int .i64 x296002_1, .int .i64 x296003_1] 32 (0, 0)) (by (with_reducible repeat (first | refine blk_drewN ?_ _ | refine blk_drew ?_ | refine blk_alloc ?_ _)); exact BK295.out) hb); have n1_ := Aside0.mk (below_step (by repeat (first | (with_reducible first | exact HB.out | apply below_alloc | apply pw_below_drewN | apply below_drew1 | refine below_set ?_ GE295.out) | exact HB.out)) hb); clear BK295; clear HB; have BK295 := n0_; have HB := n1_; clear n0_ n1_; (try clear hb); (try clear hb2); (try clear hk); (try clear hi)) | ((with_reducible refine gate_dst (N := 6) rfl ?_); refine box_event ?hg (N := 6) ?hd (cs := #[.int .i64 0, .int .i64 0, .int .i64 0]) (t := 44) ?hr ?_; (case hd => rfl); (case hg => rfl); (case hr => first | (go_simp; done) | (go_simp; rfl)); intro gb301 hg w17 hbox hb; have n0_ := Aside0.mk (blk_below (g := gb295) (o := .cells #[.int .i64 x296000_1, .string x296001_1, .int .i64 x296002_1, .int .i64 x296003_1] 32 (0, 0)) (by (with_reducible repeat (first | refine blk_drewN ?_ _ | refine blk_drew ?_ | refine blk_alloc ?_ _)); exact BK295.out) hb); have n1_ := Aside0.mk (below_step (by repeat (first | (with_reducible first | exact HB.out | apply below_alloc | apply pw_below_drewN | apply below_drew1 | refine below_set ?_ GE295.out) | exact HB.out)) hb); have n2_ := Aside0.mk (hbox); have n3_ := Aside0.mk ((by rw [hg]; exact (below_size (by repeat (first | (with_reducible first | exact HB.out | apply below_alloc | apply pw_below_drewN | apply below_drew1 | refine below_set ?_ GE295.out) | exact HB.out))) : w.heap.size ≤ gb301)); have n4_ := Aside0.mk ((by rw [hg]; exact (below_size (by repeat (first | (with_reducible first | exact HB.out | apply below_alloc | apply pw_below_drewN | apply below_drew1 | refine below_set ?_ GE295.out) | exact HB.out))) : w.heap.size ≤ gb301)); have n5_ := Aside0.mk ((by rw [hg]; exact Nat.ne_of_lt (blk_lt (g := gb295) (o := .cells #[.int .i64 x296000_1, .string x296001_1, .int .i64 x296002_1, .int .i64 x296003_1] 32 (0, 0)) (by (with_reducible repeat (first | refine blk_drewN ?_ _ | refine blk_drew ?_ | refine blk_alloc ?_ _)); exact BK295.out)) : gb295 ≠ gb301)); have n6_ := Aside0.mk ((by rw [hg]; exact Nat.ne_of_gt (blk_lt (g := gb295) (o := .cells #[.int .i64 x296000_1, .string x296001_1, .int .i64 x296002_1, .int .i64 x296003_1] 32 (0, 0)) (by (with_reducible repeat (first | refine blk_drewN ?_ _ | refine blk_drew ?_ | refine blk_alloc ?_ _)); exact BK295.out)) : gb301 ≠ gb295)); clear BK295; clear HB; have BK295 := n0_; have HB := n1_; have BK301 := n2_; have GW301 := n3_; have GE301 := n4_; have NB295_301 := n5_; have NB301_295 := n6_; clear n0_ n1_ n2_ n3_ n4_ n5_ n6_; clear hb hbox hg; have hnb18 := NB301_295.out; have hnc18 := NB295_301.out; have hcz19_0 : w17.cell? ⟨gb301, 0, none⟩ = some (.int .i64 0) := (blk_cell BK301.out 0).trans rfl; have hcz19_1 : w17.cell? ⟨gb301, 1, none⟩ = some (.int .i64 0) := (blk_cell BK301.out 1).trans rfl; have hcz19_2 : w17.cell? ⟨gb301, 2, none⟩ = some (.int .i64 0) := (blk_cell BK301.out 2).trans rfl; have hfz19_0 := blk_frozen BK301.out 0; have hfz19_1 := blk_frozen BK301.out 1; have hfz19_2 := blk_frozen BK301.out 2))
        go_roundg k1
        case measure => have := HK1.out; omega
        case rel => exact ⟨(wrap64 (x5_1 - 1)), (x296000_1), (x296001_1), (x296002_1), (x296003_1), (by first | rfl | (simp; done) | (simp [*]; done)), H', ⟨by have := HK1.out; omega⟩, ⟨by (with_reducible repeat (first | refine blk_drewN ?_ _ | refine blk_drew ?_ | refine blk_alloc ?_ _)); refine blk_far ?_ NB295_301.out _; (with_reducible repeat (first | refine blk_drewN ?_ _ | refine blk_drew ?_ | refine blk_alloc ?_ _)); refine blk_far ?_ NB295_301.out _; (with_reducible repeat (first | refine blk_drewN ?_ _ | refine blk_drew ?_ | refine blk_alloc ?_ _)); refine blk_far ?_ NB295_301.out _; (with_reducible repeat (first | refine blk_drewN ?_ _ | refine blk_drew ?_ | refine blk_alloc ?_ _)); exact BK295.out⟩, ⟨by repeat (first | (with_reducible first | exact HB.out | apply below_alloc | apply pw_below_drewN | apply below_drew1 | refine below_set ?_ GE295.out | refine below_set ?_ GE301.out) | exact HB.out)⟩⟩
      ·rw [if_neg c6] at H
       exact absurd H (by simp)
     ·rw [if_neg c5] at H
      exact absurd H (by simp)
    ·rw [if_neg c4] at H
     have c4b0 : decide (0 < x5_1) = false := decide_eq_false c4
     clear c4
     simp only [Option.some.injEq, Prod.mk.injEq] at H
     obtain ⟨rfl, rfl, rfl, rfl, rfl, rfl⟩ := H
     have hcz20_0 : wr.cell? ⟨gb295, 0, none⟩ = some (.int .i64 x296000_1) := (blk_cell BK295.out 0).trans rfl
     have hcz20_1 : wr.cell? ⟨gb295, 1, none⟩ = some (.string x296001_1) := (blk_cell BK295.out 1).trans rfl
     have hcz20_2 : wr.cell? ⟨gb295, 2, none⟩ = some (.int .i64 x296002_1) := (blk_cell BK295.out 2).trans rfl
     have hcz20_3 : wr.cell? ⟨gb295, 3, none⟩ = some (.int .i64 x296003_1) := (blk_cell BK295.out 3).trans rfl
     have hfz20_0 := blk_frozen BK295.out 0
     have hfz20_1 := blk_frozen BK295.out 1
     have hfz20_2 := blk_frozen BK295.out 2
     have hfz20_3 := blk_frozen BK295.out 3
     go_wp2
     refine bodyPost_ret (results_ctt rfl _ _ gb295 32 #[.int .i64 0, .string (⟨#[]⟩ : ByteArray), .int .i64 0, .int .i64 0] (0, 0) _ rfl (by (with_reducible repeat (first | refine blk_drewN ?_ _ | refine blk_drew ?_ | refine blk_alloc ?_ _)); refine blk_put (cs := #[.int .i64 0, .string (⟨#[]⟩ : ByteArray), .int .i64 0, .int .i64 x296003_1]) ?_ 3 _ rfl; (with_reducible repeat (first | refine blk_drewN ?_ _ | refine blk_drew ?_ | refine blk_alloc ?_ _)); refine blk_put (cs := #[.int .i64 0, .string (⟨#[]⟩ : ByteArray), .int .i64 x296002_1, .int .i64 x296003_1]) ?_ 2 _ rfl; (with_reducible repeat (first | refine blk_drewN ?_ _ | refine blk_drew ?_ | refine blk_alloc ?_ _)); refine blk_put (cs := #[.int .i64 0, .string x296001_1, .int .i64 x296002_1, .int .i64 x296003_1]) ?_ 1 _ rfl; (with_reducible repeat (first | refine blk_drewN ?_ _ | refine blk_drew ?_ | refine blk_alloc ?_ _)); refine blk_put (cs := #[.int .i64 x296000_1, .string x296001_1, .int .i64 x296002_1, .int .i64 x296003_1]) ?_ 0 _ rfl; (with_reducible repeat (first | refine blk_drewN ?_ _ | refine blk_drew ?_ | refine blk_alloc ?_ _)); exact BK295.out) Tryz.underlying32 rfl (by kernel_rfl)) rfl ?_
     exact ⟨by first | rfl | (simp [errW_none, errW_some] <;> rfl) | (simp [*, errW_none, errW_some] <;> rfl), by repeat (first | (with_reducible first | exact HB.out | apply below_alloc | apply pw_below_drewN | apply below_drew1 | refine below_set ?_ GE295.out) | exact HB.out)⟩

/-! ### lex_variable: function 50 -/
def lex_variable.f (a0 : ByteArray) : Option (Int × ByteArray × Int × Int × Int × Bool) := if 1 ≤ (a0.size : Int) then ((lex_run.f (a0.extract 1 a0.size) 80).bind fun t303 => (if (wrap64 (1 + t303)) > 30 then (some (0, (⟨#[]⟩ : ByteArray), 0, 0, 0, false)) else (if (wrap64 (1 + t303)) = 1 then (some (0, (⟨#[]⟩ : ByteArray), 0, 0, 0, false)) else (if 1 < (a0.size : Int) then ((lex_small.f (bt a0 1)).bind fun t304 => (if t304 = true then (if 1 ≤ (wrap64 (1 + t303)) then (if (wrap64 (1 + t303)) ≤ (a0.size : Int) then (some (3, a0.extract 1 ((wrap64 (1 + t303)) : Int).toNat, 0, 0, wrap64 (1 + t303), true)) else (none)) else (none)) else (some (0, (⟨#[]⟩ : ByteArray), 0, 0, 0, false)))) else (none))))) else (none)
set_option maxHeartbeats 8000000 in
set_option maxRecDepth 100000 in
theorem lex_variable.calls (a0 : ByteArray) (r1 : Int) (r2 : ByteArray) (r3 : Int) (r4 : Int) (r5 : Int) (r6 : Bool) (w : World) (h : lex_variable.f a0 = some (r1, r2, r3, r4, r5, r6)) :
    Calls Tryz.prog 50 #[.string a0] w fun e w' => e = .returned (.tuple #[.agg #[.int .i64 r1, .string r2, .int .i64 r3, .int .i64 r4], .int .i64 r5, .bool r6]) ∧ Below w.heap.size w w' := by
  have hu32 := Tryz.underlying32
  have HB := Aside0.mk (Below.refl w.heap.size w)
  have H : (if 1 ≤ (a0.size : Int) then ((lex_run.f (a0.extract 1 a0.size) 80).bind fun t303 => (if (wrap64 (1 + t303)) > 30 then (some (0, (⟨#[]⟩ : ByteArray), 0, 0, 0, false)) else (if (wrap64 (1 + t303)) = 1 then (some (0, (⟨#[]⟩ : ByteArray), 0, 0, 0, false)) else (if 1 < (a0.size : Int) then ((lex_small.f (bt a0 1)).bind fun t304 => (if t304 = true then (if 1 ≤ (wrap64 (1 + t303)) then (if (wrap64 (1 + t303)) ≤ (a0.size : Int) then (some (3, a0.extract 1 ((wrap64 (1 + t303)) : Int).toNat, 0, 0, wrap64 (1 + t303), true)) else (none)) else (none)) else (some (0, (⟨#[]⟩ : ByteArray), 0, 0, 0, false)))) else (none))))) else (none)) = some (r1, r2, r3, r4, r5, r6) := h
  clear h
  by_cases c2 : 1 ≤ (a0.size : Int)
  ·rw [if_pos c2] at H
   have c2b0 := eq_true c2
   have c2b1 : decide (1 ≤ (a0.size : Int)) = true := decide_eq_true c2
   clear c2
   replace H := Option.bind_eq_some_iff.mp H
   obtain ⟨t303, A30, H⟩ := H
   replace H : (if (wrap64 (1 + t303)) > 30 then (some (0, (⟨#[]⟩ : ByteArray), 0, 0, 0, false)) else (if (wrap64 (1 + t303)) = 1 then (some (0, (⟨#[]⟩ : ByteArray), 0, 0, 0, false)) else (if 1 < (a0.size : Int) then ((lex_small.f (bt a0 1)).bind fun t304 => (if t304 = true then (if 1 ≤ (wrap64 (1 + t303)) then (if (wrap64 (1 + t303)) ≤ (a0.size : Int) then (some (3, a0.extract 1 ((wrap64 (1 + t303)) : Int).toNat, 0, 0, wrap64 (1 + t303), true)) else (none)) else (none)) else (some (0, (⟨#[]⟩ : ByteArray), 0, 0, 0, false)))) else (none)))) = some (r1, r2, r3, r4, r5, r6) := H
   have A3 := Aside0.mk A30
   clear A30
   by_cases c4 : (wrap64 (1 + t303)) > 30
   ·rw [if_pos c4] at H
    have c4b0 : decide (30 < (wrap64 (1 + t303))) = true := decide_eq_true c4
    clear c4
    simp only [Option.some.injEq, Prod.mk.injEq] at H
    obtain ⟨rfl, rfl, rfl, rfl, rfl, rfl⟩ := H
    go_enter Tryz.func50, Tryz.ntmps50
    go_wp2_with (first | ((with_reducible refine gate_dst (N := 2) rfl ?_); refine box_event ?hg (N := 2) ?hd (cs := #[.int .i64 0, .string (⟨#[]⟩ : ByteArray), .int .i64 0, .int .i64 0]) (t := 32) ?hr ?_; (case hd => rfl); (case hg => rfl); (case hr => first | (go_simp; done) | (go_simp; rfl)); intro gb302 hg w5 hbox hb; have n0_ := Aside0.mk (below_step (by repeat (first | (with_reducible first | exact HB.out | apply below_alloc | apply pw_below_drewN | apply below_drew1) | exact HB.out)) hb); have n1_ := Aside0.mk (hbox); have n2_ := Aside0.mk ((by rw [hg]; exact (below_size (by repeat (first | (with_reducible first | exact HB.out | apply below_alloc | apply pw_below_drewN | apply below_drew1) | exact HB.out))) : w.heap.size ≤ gb302)); have n3_ := Aside0.mk ((by rw [hg]; exact (below_size (by repeat (first | (with_reducible first | exact HB.out | apply below_alloc | apply pw_below_drewN | apply below_drew1) | exact HB.out))) : w.heap.size ≤ gb302)); clear HB; have HB := n0_; have BK302 := n1_; have GW302 := n2_; have GE302 := n3_; clear n0_ n1_ n2_ n3_; clear hb hbox hg) | ((with_reducible refine gate_callee (f := 78) rfl ?_); refine goesL_ (some 8) rfl rfl Tryz.func78 (by kernel_rfl) rfl #[.string (a0.extract 1 a0.size), .func (.func 80) #[] #[]] rfl (by (try simp only [List.map_toArray, List.map_cons, List.map_nil]); first | done | rfl | (simp only [List.length_drop, List.length_take]; rfl)) ?_; (with_reducible refine (lex_run.calls (a0.extract 1 a0.size) 80 t303 _ A3.out).mono ?_); rintro e w' ⟨rfl, ⟨nd, rfl⟩⟩; refine ⟨_, rfl, ?_⟩; (try (rw [drewN_self w5]; generalize hq_ : World.drewN w5 _ = w5; have n0_ : Aside0 (w5.heap[gb302]? = some (.cells #[.int .i64 0, .string (⟨#[]⟩ : ByteArray), .int .i64 0, .int .i64 0] 32 (0, 0))) := ⟨by rw [← hq_]; exact (by (with_reducible repeat (first | refine blk_drewN ?_ _ | refine blk_drew ?_ | refine blk_alloc ?_ _)); exact BK302.out)⟩; have n1_ : Aside0 (Below w.heap.size w w5) := ⟨by rw [← hq_]; exact (by repeat (first | (with_reducible first | exact HB.out | apply below_alloc | apply pw_below_drewN | apply below_drew1 | refine below_set ?_ GE302.out) | exact HB.out))⟩; clear BK302 HB hq_; have BK302 := n0_; have HB := n1_; clear n0_ n1_)); have hcz6_0 : w5.cell? ⟨gb302, 0, none⟩ = some (.int .i64 0) := (blk_cell BK302.out 0).trans rfl; have hcz6_1 : w5.cell? ⟨gb302, 1, none⟩ = some (.string (⟨#[]⟩ : ByteArray)) := (blk_cell BK302.out 1).trans rfl; have hcz6_2 : w5.cell? ⟨gb302, 2, none⟩ = some (.int .i64 0) := (blk_cell BK302.out 2).trans rfl; have hcz6_3 : w5.cell? ⟨gb302, 3, none⟩ = some (.int .i64 0) := (blk_cell BK302.out 3).trans rfl; have hfz6_0 := blk_frozen BK302.out 0; have hfz6_1 := blk_frozen BK302.out 1; have hfz6_2 := blk_frozen BK302.out 2; have hfz6_3 := blk_frozen BK302.out 3))
    refine bodyPost_ret (results_ctt rfl _ _ gb302 32 #[.int .i64 0, .string (⟨#[]⟩ : ByteArray), .int .i64 0, .int .i64 0] (0, 0) _ rfl (by (with_reducible repeat (first | refine blk_drewN ?_ _ | refine blk_drew ?_ | refine blk_alloc ?_ _)); refine blk_put (cs := #[.int .i64 0, .string (⟨#[]⟩ : ByteArray), .int .i64 0, .int .i64 0]) ?_ 3 _ rfl; (with_reducible repeat (first | refine blk_drewN ?_ _ | refine blk_drew ?_ | refine blk_alloc ?_ _)); refine blk_put (cs := #[.int .i64 0, .string (⟨#[]⟩ : ByteArray), .int .i64 0, .int .i64 0]) ?_ 2 _ rfl; (with_reducible repeat (first | refine blk_drewN ?_ _ | refine blk_drew ?_ | refine blk_alloc ?_ _)); refine blk_put (cs := #[.int .i64 0, .string (⟨#[]⟩ : ByteArray), .int .i64 0, .int .i64 0]) ?_ 1 _ rfl; (with_reducible repeat (first | refine blk_drewN ?_ _ | refine blk_drew ?_ | refine blk_alloc ?_ _)); refine blk_put (cs := #[.int .i64 0, .string (⟨#[]⟩ : ByteArray), .int .i64 0, .int .i64 0]) ?_ 0 _ rfl; (with_reducible repeat (first | refine blk_drewN ?_ _ | refine blk_drew ?_ | refine blk_alloc ?_ _)); exact BK302.out) Tryz.underlying32 rfl (by kernel_rfl)) rfl ?_
    exact ⟨by first | rfl | (simp [errW_none, errW_some] <;> rfl) | (simp [*, errW_none, errW_some] <;> rfl), by repeat (first | (with_reducible first | exact HB.out | apply below_alloc | apply pw_below_drewN | apply below_drew1 | refine below_set ?_ GE302.out) | exact HB.out)⟩
   ·rw [if_neg c4] at H
    have c4b0 : decide (30 < (wrap64 (1 + t303))) = false := decide_eq_false c4
    clear c4
    by_cases c7 : (wrap64 (1 + t303)) = 1
    ·rw [if_pos c7] at H
     have c7b0 : ((wrap64 (1 + t303)) == 1) = true := beq_iff_eq.mpr c7
     have c7b1 : ((wrap64 (1 + t303)) != 1) = false := bne_eq_false_iff_eq.mpr c7
     clear c7
     simp only [Option.some.injEq, Prod.mk.injEq] at H
     obtain ⟨rfl, rfl, rfl, rfl, rfl, rfl⟩ := H
     go_enter Tryz.func50, Tryz.ntmps50
     go_wp2_with (first | ((with_reducible refine gate_dst (N := 2) rfl ?_); refine box_event ?hg (N := 2) ?hd (cs := #[.int .i64 0, .string (⟨#[]⟩ : ByteArray), .int .i64 0, .int .i64 0]) (t := 32) ?hr ?_; (case hd => rfl); (case hg => rfl); (case hr => first | (go_simp; done) | (go_simp; rfl)); intro gb302 hg w8 hbox hb; have n0_ := Aside0.mk (below_step (by repeat (first | (with_reducible first | exact HB.out | apply below_alloc | apply pw_below_drewN | apply below_drew1) | exact HB.out)) hb); have n1_ := Aside0.mk (hbox); have n2_ := Aside0.mk ((by rw [hg]; exact (below_size (by repeat (first | (with_reducible first | exact HB.out | apply below_alloc | apply pw_below_drewN | apply below_drew1) | exact HB.out))) : w.heap.size ≤ gb302)); have n3_ := Aside0.mk ((by rw [hg]; exact (below_size (by repeat (first | (with_reducible first | exact HB.out | apply below_alloc | apply pw_below_drewN | apply below_drew1) | exact HB.out))) : w.heap.size ≤ gb302)); clear HB; have HB := n0_; have BK302 := n1_; have GW302 := n2_; have GE302 := n3_; clear n0_ n1_ n2_ n3_; clear hb hbox hg) | ((with_reducible refine gate_callee (f := 78) rfl ?_); refine goesL_ (some 8) rfl rfl Tryz.func78 (by kernel_rfl) rfl #[.string (a0.extract 1 a0.size), .func (.func 80) #[] #[]] rfl (by (try simp only [List.map_toArray, List.map_cons, List.map_nil]); first | done | rfl | (simp only [List.length_drop, List.length_take]; rfl)) ?_; (with_reducible refine (lex_run.calls (a0.extract 1 a0.size) 80 t303 _ A3.out).mono ?_); rintro e w' ⟨rfl, ⟨nd, rfl⟩⟩; refine ⟨_, rfl, ?_⟩; (try (rw [drewN_self w8]; generalize hq_ : World.drewN w8 _ = w8; have n0_ : Aside0 (w8.heap[gb302]? = some (.cells #[.int .i64 0, .string (⟨#[]⟩ : ByteArray), .int .i64 0, .int .i64 0] 32 (0, 0))) := ⟨by rw [← hq_]; exact (by (with_reducible repeat (first | refine blk_drewN ?_ _ | refine blk_drew ?_ | refine blk_alloc ?_ _)); exact BK302.out)⟩; have n1_ : Aside0 (Below w.heap.size w w8) := ⟨by rw [← hq_]; exact (by repeat (first | (with_reducible first | exact HB.out | apply below_alloc | apply pw_below_drewN | apply below_drew1 | refine below_set ?_ GE302.out) | exact HB.out))⟩; clear BK302 HB hq_; have BK302 := n0_; have HB := n1_; clear n0_ n1_)); have hcz9_0 : w8.cell? ⟨gb302, 0, none⟩ = some (.int .i64 0) := (blk_cell BK302.out 0).trans rfl; have hcz9_1 : w8.cell? ⟨gb302, 1, none⟩ = some (.string (⟨#[]⟩ : ByteArray)) := (blk_cell BK302.out 1).trans rfl; have hcz9_2 : w8.cell? ⟨gb302, 2, none⟩ = some (.int .i64 0) := (blk_cell BK302.out 2).trans rfl; have hcz9_3 : w8.cell? ⟨gb302, 3, none⟩ = some (.int .i64 0) := (blk_cell BK302.out 3).trans rfl; have hfz9_0 := blk_frozen BK302.out 0; have hfz9_1 := blk_frozen BK302.out 1; have hfz9_2 := blk_frozen BK302.out 2; have hfz9_3 := blk_frozen BK302.out 3))
     refine bodyPost_ret (results_ctt rfl _ _ gb302 32 #[.int .i64 0, .string (⟨#[]⟩ : ByteArray), .int .i64 0, .int .i64 0] (0, 0) _ rfl (by (with_reducible repeat (first | refine blk_drewN ?_ _ | refine blk_drew ?_ | refine blk_alloc ?_ _)); refine blk_put (cs := #[.int .i64 0, .string (⟨#[]⟩ : ByteArray), .int .i64 0, .int .i64 0]) ?_ 3 _ rfl; (with_reducible repeat (first | refine blk_drewN ?_ _ | refine blk_drew ?_ | refine blk_alloc ?_ _)); refine blk_put (cs := #[.int .i64 0, .string (⟨#[]⟩ : ByteArray), .int .i64 0, .int .i64 0]) ?_ 2 _ rfl; (with_reducible repeat (first | refine blk_drewN ?_ _ | refine blk_drew ?_ | refine blk_alloc ?_ _)); refine blk_put (cs := #[.int .i64 0, .string (⟨#[]⟩ : ByteArray), .int .i64 0, .int .i64 0]) ?_ 1 _ rfl; (with_reducible repeat (first | refine blk_drewN ?_ _ | refine blk_drew ?_ | refine blk_alloc ?_ _)); refine blk_put (cs := #[.int .i64 0, .string (⟨#[]⟩ : ByteArray), .int .i64 0, .int .i64 0]) ?_ 0 _ rfl; (with_reducible repeat (first | refine blk_drewN ?_ _ | refine blk_drew ?_ | refine blk_alloc ?_ _)); exact BK302.out) Tryz.underlying32 rfl (by kernel_rfl)) rfl ?_
     exact ⟨by first | rfl | (simp [errW_none, errW_some] <;> rfl) | (simp [*, errW_none, errW_some] <;> rfl), by repeat (first | (with_reducible first | exact HB.out | apply below_alloc | apply pw_below_drewN | apply below_drew1 | refine below_set ?_ GE302.out) | exact HB.out)⟩
    ·rw [if_neg c7] at H
     have c7b0 : ((wrap64 (1 + t303)) == 1) = false := beq_eq_false_iff_ne.mpr c7
     have c7b1 : ((wrap64 (1 + t303)) != 1) = true := bne_iff_ne.mpr c7
     by_cases c10 : 1 < (a0.size : Int)
     ·rw [if_pos c10] at H
      have c10b0 : decide (1 < (a0.size : Int)) = true := decide_eq_true c10
      have c10b1 : decide (1 < a0.size) = true := decide_eq_true (by omega)
      clear c10
      replace H := Option.bind_eq_some_iff.mp H
      obtain ⟨t304, A120, H⟩ := H
      replace H : (if t304 = true then (if 1 ≤ (wrap64 (1 + t303)) then (if (wrap64 (1 + t303)) ≤ (a0.size : Int) then (some (3, a0.extract 1 ((wrap64 (1 + t303)) : Int).toNat, 0, 0, wrap64 (1 + t303), true)) else (none)) else (none)) else (some (0, (⟨#[]⟩ : ByteArray), 0, 0, 0, false))) = some (r1, r2, r3, r4, r5, r6) := H
      have A12 := Aside0.mk A120
      clear A120
      by_cases c13 : t304 = true
      ·subst c13
       have H1 : (if 1 ≤ (wrap64 (1 + t303)) then (if (wrap64 (1 + t303)) ≤ (a0.size : Int) then (some (3, a0.extract 1 ((wrap64 (1 + t303)) : Int).toNat, 0, 0, wrap64 (1 + t303), true)) else (none)) else (none)) = some (r1, r2, r3, r4, r5, r6) := by rw [if_pos rfl] at H; exact H
       clear H
       have H := H1
       clear H1
       by_cases c14 : 1 ≤ (wrap64 (1 + t303))
       ·rw [if_pos c14] at H
        have c14b0 := eq_true c14
        have c14b1 : decide (1 ≤ (wrap64 (1 + t303))) = true := decide_eq_true c14
        by_cases c15 : (wrap64 (1 + t303)) ≤ (a0.size : Int)
        ·rw [if_pos c15] at H
         have c15b0 := eq_true c15
         have c15b1 : decide ((wrap64 (1 + t303)) ≤ (a0.size : Int)) = true := decide_eq_true c15
         simp only [Option.some.injEq, Prod.mk.injEq] at H
         obtain ⟨rfl, rfl, rfl, rfl, rfl, rfl⟩ := H
         go_enter Tryz.func50, Tryz.ntmps50
         go_wp2_with (first | ((with_reducible refine gate_dst (N := 2) rfl ?_); refine box_event ?hg (N := 2) ?hd (cs := #[.int .i64 0, .string (⟨#[]⟩ : ByteArray), .int .i64 0, .int .i64 0]) (t := 32) ?hr ?_; (case hd => rfl); (case hg => rfl); (case hr => first | (go_simp; done) | (go_simp; rfl)); intro gb302 hg w16 hbox hb; have n0_ := Aside0.mk (below_step (by repeat (first | (with_reducible first | exact HB.out | apply below_alloc | apply pw_below_drewN | apply below_drew1) | exact HB.out)) hb); have n1_ := Aside0.mk (hbox); have n2_ := Aside0.mk ((by rw [hg]; exact (below_size (by repeat (first | (with_reducible first | exact HB.out | apply below_alloc | apply pw_below_drewN | apply below_drew1) | exact HB.out))) : w.heap.size ≤ gb302)); have n3_ := Aside0.mk ((by rw [hg]; exact (below_size (by repeat (first | (with_reducible first | exact HB.out | apply below_alloc | apply pw_below_drewN | apply below_drew1) | exact HB.out))) : w.heap.size ≤ gb302)); clear HB; have HB := n0_; have BK302 := n1_; have GW302 := n2_; have GE302 := n3_; clear n0_ n1_ n2_ n3_; clear hb hbox hg) | ((with_reducible refine gate_callee (f := 78) rfl ?_); refine goesL_ (some 8) rfl rfl Tryz.func78 (by kernel_rfl) rfl #[.string (a0.extract 1 a0.size), .func (.func 80) #[] #[]] rfl (by (try simp only [List.map_toArray, List.map_cons, List.map_nil]); first | done | rfl | (simp only [List.length_drop, List.length_take]; rfl)) ?_; (with_reducible refine (lex_run.calls (a0.extract 1 a0.size) 80 t303 _ A3.out).mono ?_); rintro e w' ⟨rfl, ⟨nd, rfl⟩⟩; refine ⟨_, rfl, ?_⟩; (try (rw [drewN_self w16]; generalize hq_ : World.drewN w16 _ = w16; have n0_ : Aside0 (w16.heap[gb302]? = some (.cells #[.int .i64 0, .string (⟨#[]⟩ : ByteArray), .int .i64 0, .int .i64 0] 32 (0, 0))) := ⟨by rw [← hq_]; exact (by (with_reducible repeat (first | refine blk_drewN ?_ _ | refine blk_drew ?_ | refine blk_alloc ?_ _)); exact BK302.out)⟩; have n1_ : Aside0 (Below w.heap.size w w16) := ⟨by rw [← hq_]; exact (by repeat (first | (with_reducible first | exact HB.out | apply below_alloc | apply pw_below_drewN | apply below_drew1 | refine below_set ?_ GE302.out) | exact HB.out))⟩; clear BK302 HB hq_; have BK302 := n0_; have HB := n1_; clear n0_ n1_)); have p11 : 0 ≤ (1 : Int) := (by omega); have q11 : 1 < a0.size := (by have : (1 : Int) < (a0.size : Int) := of_decide_eq_true (by first | (with_reducible assumption) | assumption); omega); have hx11 : ∀ h : 1 < a0.size, ((a0[1]'h).toNat : Int) = bt a0 1 := bt_at a0 1; clear p11; have qi11 : (1 < (a0.size : Int)) = True := eq_true (of_decide_eq_true (by first | (with_reducible assumption) | assumption)); replace q11 := eq_true q11) | (go_at_call 47; (with_reducible refine (lex_small.calls (bt a0 1) true _ A12.out).mono ?_); rintro e w' ⟨rfl, ⟨nd, rfl⟩⟩; (try (rw [drewN_self w16]; generalize hq_ : World.drewN w16 _ = w16; have n0_ : Aside0 (w16.heap[gb302]? = some (.cells #[.int .i64 0, .string (⟨#[]⟩ : ByteArray), .int .i64 0, .int .i64 0] 32 (0, 0))) := ⟨by rw [← hq_]; exact (by (with_reducible repeat (first | refine blk_drewN ?_ _ | refine blk_drew ?_ | refine blk_alloc ?_ _)); exact BK302.out)⟩; have n1_ : Aside0 (Below w.heap.size w w16) := ⟨by rw [← hq_]; exact (by repeat (first | (with_reducible first | exact HB.out | apply below_alloc | apply pw_below_drewN | apply below_drew1 | refine below_set ?_ GE302.out) | exact HB.out))⟩; clear BK302 HB hq_; have BK302 := n0_; have HB := n1_; clear n0_ n1_)); have hcz17_0 : w16.cell? ⟨gb302, 0, none⟩ = some (.int .i64 0) := (blk_cell BK302.out 0).trans rfl; have hcz17_1 : w16.cell? ⟨gb302, 1, none⟩ = some (.string (⟨#[]⟩ : ByteArray)) := (blk_cell BK302.out 1).trans rfl; have hcz17_2 : w16.cell? ⟨gb302, 2, none⟩ = some (.int .i64 0) := (blk_cell BK302.out 2).trans rfl; have hcz17_3 : w16.cell? ⟨gb302, 3, none⟩ = some (.int .i64 0) := (blk_cell BK302.out 3).trans rfl; have hfz17_0 := blk_frozen BK302.out 0; have hfz17_1 := blk_frozen BK302.out 1; have hfz17_2 := blk_frozen BK302.out 2; have hfz17_3 := blk_frozen BK302.out 3))
         refine bodyPost_ret (results_ctt rfl _ _ gb302 32 #[.int .i64 3, .string (a0.extract 1 ((wrap64 (1 + t303)) : Int).toNat), .int .i64 0, .int .i64 0] (0, 0) _ rfl (by (with_reducible repeat (first | refine blk_drewN ?_ _ | refine blk_drew ?_ | refine blk_alloc ?_ _)); refine blk_put (cs := #[.int .i64 3, .string (a0.extract 1 ((wrap64 (1 + t303)) : Int).toNat), .int .i64 0, .int .i64 0]) ?_ 3 _ rfl; (with_reducible repeat (first | refine blk_drewN ?_ _ | refine blk_drew ?_ | refine blk_alloc ?_ _)); refine blk_put (cs := #[.int .i64 3, .string (a0.extract 1 ((wrap64 (1 + t303)) : Int).toNat), .int .i64 0, .int .i64 0]) ?_ 2 _ rfl; (with_reducible repeat (first | refine blk_drewN ?_ _ | refine blk_drew ?_ | refine blk_alloc ?_ _)); refine blk_put (cs := #[.int .i64 3, .string (⟨#[]⟩ : ByteArray), .int .i64 0, .int .i64 0]) ?_ 1 _ rfl; (with_reducible repeat (first | refine blk_drewN ?_ _ | refine blk_drew ?_ | refine blk_alloc ?_ _)); refine blk_put (cs := #[.int .i64 0, .string (⟨#[]⟩ : ByteArray), .int .i64 0, .int .i64 0]) ?_ 0 _ rfl; (with_reducible repeat (first | refine blk_drewN ?_ _ | refine blk_drew ?_ | refine blk_alloc ?_ _)); exact BK302.out) Tryz.underlying32 rfl (by kernel_rfl)) rfl ?_
         exact ⟨by first | rfl | (simp [errW_none, errW_some] <;> rfl) | (simp [*, errW_none, errW_some] <;> rfl), by repeat (first | (with_reducible first | exact HB.out | apply below_alloc | apply pw_below_drewN | apply below_drew1 | refine below_set ?_ GE302.out) | exact HB.out)⟩
        ·rw [if_neg c15] at H
         exact absurd H (by simp)
       ·rw [if_neg c14] at H
        exact absurd H (by simp)
      ·replace c13 := Bool.eq_false_iff.mpr c13
       subst c13
       have H1 : (some (0, (⟨#[]⟩ : ByteArray), 0, 0, 0, false)) = some (r1, r2, r3, r4, r5, r6) := by rw [if_neg (show ¬ (false = true) by decide)] at H; exact H
       clear H
       have H := H1
       clear H1
       simp only [Option.some.injEq, Prod.mk.injEq] at H
       obtain ⟨rfl, rfl, rfl, rfl, rfl, rfl⟩ := H
       go_enter Tryz.func50, Tryz.ntmps50
       go_wp2_with (first | ((with_reducible refine gate_dst (N := 2) rfl ?_); refine box_event ?hg (N := 2) ?hd (cs := #[.int .i64 0, .string (⟨#[]⟩ : ByteArray), .int .i64 0, .int .i64 0]) (t := 32) ?hr ?_; (case hd => rfl); (case hg => rfl); (case hr => first | (go_simp; done) | (go_simp; rfl)); intro gb302 hg w18 hbox hb; have n0_ := Aside0.mk (below_step (by repeat (first | (with_reducible first | exact HB.out | apply below_alloc | apply pw_below_drewN | apply below_drew1) | exact HB.out)) hb); have n1_ := Aside0.mk (hbox); have n2_ := Aside0.mk ((by rw [hg]; exact (below_size (by repeat (first | (with_reducible first | exact HB.out | apply below_alloc | apply pw_below_drewN | apply below_drew1) | exact HB.out))) : w.heap.size ≤ gb302)); have n3_ := Aside0.mk ((by rw [hg]; exact (below_size (by repeat (first | (with_reducible first | exact HB.out | apply below_alloc | apply pw_below_drewN | apply below_drew1) | exact HB.out))) : w.heap.size ≤ gb302)); clear HB; have HB := n0_; have BK302 := n1_; have GW302 := n2_; have GE302 := n3_; clear n0_ n1_ n2_ n3_; clear hb hbox hg) | ((with_reducible refine gate_callee (f := 78) rfl ?_); refine goesL_ (some 8) rfl rfl Tryz.func78 (by kernel_rfl) rfl #[.string (a0.extract 1 a0.size), .func (.func 80) #[] #[]] rfl (by (try simp only [List.map_toArray, List.map_cons, List.map_nil]); first | done | rfl | (simp only [List.length_drop, List.length_take]; rfl)) ?_; (with_reducible refine (lex_run.calls (a0.extract 1 a0.size) 80 t303 _ A3.out).mono ?_); rintro e w' ⟨rfl, ⟨nd, rfl⟩⟩; refine ⟨_, rfl, ?_⟩; (try (rw [drewN_self w18]; generalize hq_ : World.drewN w18 _ = w18; have n0_ : Aside0 (w18.heap[gb302]? = some (.cells #[.int .i64 0, .string (⟨#[]⟩ : ByteArray), .int .i64 0, .int .i64 0] 32 (0, 0))) := ⟨by rw [← hq_]; exact (by (with_reducible repeat (first | refine blk_drewN ?_ _ | refine blk_drew ?_ | refine blk_alloc ?_ _)); exact BK302.out)⟩; have n1_ : Aside0 (Below w.heap.size w w18) := ⟨by rw [← hq_]; exact (by repeat (first | (with_reducible first | exact HB.out | apply below_alloc | apply pw_below_drewN | apply below_drew1 | refine below_set ?_ GE302.out) | exact HB.out))⟩; clear BK302 HB hq_; have BK302 := n0_; have HB := n1_; clear n0_ n1_)); have p11 : 0 ≤ (1 : Int) := (by omega); have q11 : 1 < a0.size := (by have : (1 : Int) < (a0.size : Int) := of_decide_eq_true (by first | (with_reducible assumption) | assumption); omega); have hx11 : ∀ h : 1 < a0.size, ((a0[1]'h).toNat : Int) = bt a0 1 := bt_at a0 1; clear p11; have qi11 : (1 < (a0.size : Int)) = True := eq_true (of_decide_eq_true (by first | (with_reducible assumption) | assumption)); replace q11 := eq_true q11) | (go_at_call 47; (with_reducible refine (lex_small.calls (bt a0 1) false _ A12.out).mono ?_); rintro e w' ⟨rfl, ⟨nd, rfl⟩⟩; (try (rw [drewN_self w18]; generalize hq_ : World.drewN w18 _ = w18; have n0_ : Aside0 (w18.heap[gb302]? = some (.cells #[.int .i64 0, .string (⟨#[]⟩ : ByteArray), .int .i64 0, .int .i64 0] 32 (0, 0))) := ⟨by rw [← hq_]; exact (by (with_reducible repeat (first | refine blk_drewN ?_ _ | refine blk_drew ?_ | refine blk_alloc ?_ _)); exact BK302.out)⟩; have n1_ : Aside0 (Below w.heap.size w w18) := ⟨by rw [← hq_]; exact (by repeat (first | (with_reducible first | exact HB.out | apply below_alloc | apply pw_below_drewN | apply below_drew1 | refine below_set ?_ GE302.out) | exact HB.out))⟩; clear BK302 HB hq_; have BK302 := n0_; have HB := n1_; clear n0_ n1_)); have hcz19_0 : w18.cell? ⟨gb302, 0, none⟩ = some (.int .i64 0) := (blk_cell BK302.out 0).trans rfl; have hcz19_1 : w18.cell? ⟨gb302, 1, none⟩ = some (.string (⟨#[]⟩ : ByteArray)) := (blk_cell BK302.out 1).trans rfl; have hcz19_2 : w18.cell? ⟨gb302, 2, none⟩ = some (.int .i64 0) := (blk_cell BK302.out 2).trans rfl; have hcz19_3 : w18.cell? ⟨gb302, 3, none⟩ = some (.int .i64 0) := (blk_cell BK302.out 3).trans rfl; have hfz19_0 := blk_frozen BK302.out 0; have hfz19_1 := blk_frozen BK302.out 1; have hfz19_2 := blk_frozen BK302.out 2; have hfz19_3 := blk_frozen BK302.out 3))
       refine bodyPost_ret (results_ctt rfl _ _ gb302 32 #[.int .i64 0, .string (⟨#[]⟩ : ByteArray), .int .i64 0, .int .i64 0] (0, 0) _ rfl (by (with_reducible repeat (first | refine blk_drewN ?_ _ | refine blk_drew ?_ | refine blk_alloc ?_ _)); refine blk_put (cs := #[.int .i64 0, .string (⟨#[]⟩ : ByteArray), .int .i64 0, .int .i64 0]) ?_ 3 _ rfl; (with_reducible repeat (first | refine blk_drewN ?_ _ | refine blk_drew ?_ | refine blk_alloc ?_ _)); refine blk_put (cs := #[.int .i64 0, .string (⟨#[]⟩ : ByteArray), .int .i64 0, .int .i64 0]) ?_ 2 _ rfl; (with_reducible repeat (first | refine blk_drewN ?_ _ | refine blk_drew ?_ | refine blk_alloc ?_ _)); refine blk_put (cs := #[.int .i64 0, .string (⟨#[]⟩ : ByteArray), .int .i64 0, .int .i64 0]) ?_ 1 _ rfl; (with_reducible repeat (first | refine blk_drewN ?_ _ | refine blk_drew ?_ | refine blk_alloc ?_ _)); refine blk_put (cs := #[.int .i64 0, .string (⟨#[]⟩ : ByteArray), .int .i64 0, .int .i64 0]) ?_ 0 _ rfl; (with_reducible repeat (first | refine blk_drewN ?_ _ | refine blk_drew ?_ | refine blk_alloc ?_ _)); exact BK302.out) Tryz.underlying32 rfl (by kernel_rfl)) rfl ?_
       exact ⟨by first | rfl | (simp [errW_none, errW_some] <;> rfl) | (simp [*, errW_none, errW_some] <;> rfl), by repeat (first | (with_reducible first | exact HB.out | apply below_alloc | apply pw_below_drewN | apply below_drew1 | refine below_set ?_ GE302.out) | exact HB.out)⟩
     ·rw [if_neg c10] at H
      exact absurd H (by simp)
  ·rw [if_neg c2] at H
   exact absurd H (by simp)

end Go.Proofs.YtaikpnenegifnaaGreatDoor.XL

/- strconv.Atoi at a numeral that an int holds: its number, and no error. -/
namespace Go.Proofs.YtaikpnenegifnaaGreatDoor
open Go.RowKit Go.Proofs.YtaikpnenegifnaaGreatDoorW.PrintWords Go.Proofs.YtaikpnenegifnaaGreatDoor.XL
def strconv_Atoi.f (a0 : ByteArray) : Option (Int × Option Int) :=
  if a0.size ≤ 1000000 then (match Lib.atoiAll a0.data.toList with
    | .ok v => some (v, none)
    | _ => none) else none
theorem strconv_Atoi.calls (a0 : ByteArray) (r1 : Int) (r2 : Option Int) (w : World) (hE : EnvOk w) (h : strconv_Atoi.f a0 = some (r1, r2)) :
    Calls Tryz.prog 67 #[.string a0] w fun e w' => e = .returned (.tuple #[.int .i64 r1, errW r2]) ∧ Below w.heap.size w w' := by
  unfold strconv_Atoi.f at h
  split at h
  · rename_i hs
    split at h
    · rename_i v hv
      simp only [Option.some.injEq, Prod.mk.injEq] at h
      obtain ⟨rfl, rfl⟩ := h
      refine (Tryz.strconv_Atoi_ok a0 (by omega) _ hv w).mono ?_
      rintro e w' ⟨rfl, hw⟩
      refine ⟨rfl, ?_⟩
      rcases hw with rfl | ⟨t, rfl⟩
      · exact Below.refl _ _
      · exact Lib.bytesWorld_below _ _ _
    · cases h
  · cases h
end Go.Proofs.YtaikpnenegifnaaGreatDoor

/- lex.number, way by way: what it returns on each way through it. -/
namespace Go.Proofs.YtaikpnenegifnaaGreatDoor
set_option linter.unusedSimpArgs false
set_option linter.unusedVariables false
open Go.RowKit Go.Proofs.YtaikpnenegifnaaGreatDoorW.PrintWords Go.Proofs.YtaikpnenegifnaaGreatDoor.XL

theorem cell_alloc_lt {w : World} {o : Obj} {b j : Nat} (h : b < w.heap.size) : (w.alloc o).cell? ⟨b, j, none⟩ = w.cell? ⟨b, j, none⟩ := ((Below.refl _ _).alloc (Nat.le_refl _) _ : Below w.heap.size w (w.alloc o)).cell (p := ⟨b, j, none⟩) h
theorem size_setCell (w : World) (p : Addr) (v : Value) : (w.setCell p v).heap.size = w.heap.size := by simp
theorem Box4.drewN {w w1 : World} {a b c d : Value} (h : Box4 w w1 a b c d) (n : Nat) : Box4 w (w1.drewN n) a b c d := h.step ((pw_below_drewN (Below.refl _ _) _))
theorem Box4.alloc {w w1 : World} {a b c d : Value} (h : Box4 w w1 a b c d) (o : Obj) : Box4 w (w1.alloc o) a b c d := h.step ((Below.refl _ _).alloc (Nat.le_refl _) _)
theorem Box4.setCell {w w1 : World} {a b c d : Value} (h : Box4 w w1 a b c d) (p : Addr) (v : Value) (hp : w.heap.size < p.block) : Box4 w (w1.setCell p v) a b c d := by
  have hf := h.lt
  obtain ⟨c0, c1, c2, c3, f0, f1, f2, f3, lt, bel⟩ := h
  have hne : ∀ j, (⟨w.heap.size, j, none⟩ : Addr).block ≠ p.block := fun j e => by simp at e; omega
  have hb : Below p.block w1 (w1.setCell p v) := (Below.refl _ _).setCell (Nat.le_refl _) _
  refine ⟨(hb.cell (p := ⟨_, _, none⟩) hp).trans c0, (hb.cell (p := ⟨_, _, none⟩) hp).trans c1, (hb.cell (p := ⟨_, _, none⟩) hp).trans c2, (hb.cell (p := ⟨_, _, none⟩) hp).trans c3, (hb.frozen (p := ⟨_, _, none⟩) hp).trans f0, (hb.frozen (p := ⟨_, _, none⟩) hp).trans f1, (hb.frozen (p := ⟨_, _, none⟩) hp).trans f2, (hb.frozen (p := ⟨_, _, none⟩) hp).trans f3, by simpa using lt, bel.trans (hb.mono (by omega))⟩

set_option maxRecDepth 100000 in
set_option maxHeartbeats 1000000 in
theorem num_v_end (s : ByteArray) (k : Nat) (w : World) (hE : EnvOk w) (hs : s.size ≤ 1000000) (hlt : 0 < s.size) (c : Int) (hc : ((s[0]'hlt).toNat : Int) = c) (t : ByteArray) (n : Nat) (hV : lex_version.f k s = some (6, t, 0, 0, (n : Int), true)) (hn : n = s.size) :
    Calls Tryz.prog 54 #[.string s] w fun e w' => e = .returned (.tuple #[.agg #[.int .i64 6, .string t, .int .i64 0, .int .i64 0], .int .i64 (n : Int), .bool true]) ∧ Below w.heap.size w w' := by
  have q2 : ((0 : Int) < (s.size : Int)) = True := eq_true (by omega)
  have HV := Aside0.mk hV
  clear hV
  have e1 : ((n : Int) == (s.size : Int)) = true := by rw [beq_iff_eq]; omega
  clear hn
  go_enter Tryz.func54, Tryz.ntmps54
  go_wp2_with (first | (go_at_call 82; refine (lex_version.calls k s 6 t 0 0 (n : Int) true _ ?ce HV.out).mono ?_; (case ce => (refine hE.below ?_; repeat (first | refine pw_below_drewN ?_ _ | exact (Below.refl _ _).alloc (Nat.le_refl _) _))); rintro e w1 ⟨rfl, hb⟩; have HB1 : Aside0 (Box4 w w1 (.int .i64 0) (.string ⟨#[]⟩) (.int .i64 0) (.int .i64 0)) := ⟨by first | exact Box4.start hb | exact Box4.start1 hb⟩; clear hb; obtain ⟨m10, m11, m12, m13, g10, g11, g12, g13, lt1, _⟩ := HB1.out; have ne1 : ¬ w.heap.size = w1.heap.size := (by omega); have ne2 : ¬ w1.heap.size = w.heap.size := (by omega)))
  refine bodyPost_ret (v := (.tuple #[.agg #[.int .i64 6, .string t, .int .i64 0, .int .i64 0], .int .i64 (n : Int), .bool true])) (by simp [results, Tryz.results54, go_sem, cell_alloc_lt, lt1, m10, m11, m12, m13]) rfl ⟨rfl, ?_⟩
  repeat (first | exact HB1.out.bel | refine Below.setCell ?_ (by first | simp | omega | (simp; omega)) _ | refine pw_below_drewN ?_ _ | refine Below.alloc ?_ (by first | omega | (simp; omega)) _)

set_option maxRecDepth 100000 in
set_option maxHeartbeats 1000000 in
theorem num_v (s : ByteArray) (k : Nat) (w : World) (hE : EnvOk w) (hs : s.size ≤ 1000000) (hlt : 0 < s.size) (c : Int) (hc : ((s[0]'hlt).toNat : Int) = c) (t : ByteArray) (n : Nat) (hV : lex_version.f k s = some (6, t, 0, 0, (n : Int), true)) (hn : n < s.size) (hD : lex_digit.f ((s[n]'hn).toNat : Int) = some false) :
    Calls Tryz.prog 54 #[.string s] w fun e w' => e = .returned (.tuple #[.agg #[.int .i64 6, .string t, .int .i64 0, .int .i64 0], .int .i64 (n : Int), .bool true]) ∧ Below w.heap.size w w' := by
  have q2 : ((0 : Int) < (s.size : Int)) = True := eq_true (by omega)
  have HV := Aside0.mk hV
  have HD := Aside0.mk hD
  clear hV hD
  have e1 : ((n : Int) == (s.size : Int)) = false := by rw [beq_eq_false_iff_ne]; omega
  have q3 := eq_true (show (0 : Int) ≤ (n : Int) by omega)
  have q4 : ((n : Int) < (s.size : Int)) = True := eq_true (by omega)
  go_enter Tryz.func54, Tryz.ntmps54
  go_wp2_with (first | (go_at_call 82; refine (lex_version.calls k s 6 t 0 0 (n : Int) true _ ?ce HV.out).mono ?_; (case ce => (refine hE.below ?_; repeat (first | refine pw_below_drewN ?_ _ | exact (Below.refl _ _).alloc (Nat.le_refl _) _))); rintro e w1 ⟨rfl, hb⟩; have HB1 : Aside0 (Box4 w w1 (.int .i64 0) (.string ⟨#[]⟩) (.int .i64 0) (.int .i64 0)) := ⟨by first | exact Box4.start hb | exact Box4.start1 hb⟩; clear hb; obtain ⟨m10, m11, m12, m13, g10, g11, g12, g13, lt1, _⟩ := HB1.out; have ne1 : ¬ w.heap.size = w1.heap.size := (by omega); have ne2 : ¬ w1.heap.size = w.heap.size := (by omega)) | (go_at_call 53; refine (lex_digit.calls _ false _ HD.out).mono ?_; rintro e w2 ⟨rfl, nd, rfl⟩))
  refine bodyPost_ret (v := (.tuple #[.agg #[.int .i64 6, .string t, .int .i64 0, .int .i64 0], .int .i64 (n : Int), .bool true])) (by simp [results, Tryz.results54, go_sem, cell_alloc_lt, lt1, m10, m11, m12, m13]) rfl ⟨rfl, ?_⟩
  repeat (first | exact HB1.out.bel | refine Below.setCell ?_ (by first | simp | omega | (simp; omega)) _ | refine pw_below_drewN ?_ _ | refine Below.alloc ?_ (by first | omega | (simp; omega)) _)

set_option maxRecDepth 100000 in
set_option maxHeartbeats 1000000 in
theorem num_a_18 (s : ByteArray) (k : Nat) (w : World) (hE : EnvOk w) (hs : s.size ≤ 1000000) (hlt : 0 < s.size) (c : Int) (hc : ((s[0]'hlt).toNat : Int) = c) (t : ByteArray) (n : Nat) (hV : lex_version.f k s = some (6, t, 0, 0, (n : Int), true)) (hn : n < s.size) (hD : lex_digit.f ((s[n]'hn).toNat : Int) = some true) (h45 : c ≠ 45) (m : Nat) (hR : lex_run.f s 53 = some (m : Int)) (hm : m ≤ s.size) (h18 : 18 < m) :
    Calls Tryz.prog 54 #[.string s] w fun e w' => e = .returned (.tuple #[.agg #[.int .i64 0, .string ⟨#[]⟩, .int .i64 0, .int .i64 0], .int .i64 0, .bool false]) ∧ Below w.heap.size w w' := by
  have q2 : ((0 : Int) < (s.size : Int)) = True := eq_true (by omega)
  have HV := Aside0.mk hV
  have HD := Aside0.mk hD
  have HR := Aside0.mk hR
  clear hV hD hR
  have e1 : ((n : Int) == (s.size : Int)) = false := by rw [beq_eq_false_iff_ne]; omega
  have q3 := eq_true (show (0 : Int) ≤ (n : Int) by omega)
  have q4 : ((n : Int) < (s.size : Int)) = True := eq_true (by omega)
  have e45 : (c == 45) = false := by first | (rw [beq_eq_false_iff_ne]; exact h45) | (rw [beq_iff_eq]; exact h45)
  clear h45
  have q5 := eq_true (show (0 : Int) ≤ (m : Int) by omega)
  have q6 := eq_true (show (m : Int) ≤ (s.size : Int) by omega)
  have e0 : ((m : Int) == 0) = false := by first | exact decide_eq_true (by omega) | exact decide_eq_false (by omega) | (rw [beq_eq_false_iff_ne]; omega) | (rw [beq_iff_eq]; omega)
  have e18 : decide ((18 : Int) < (m : Int)) = true := by first | exact decide_eq_true (by omega) | exact decide_eq_false (by omega) | (rw [beq_eq_false_iff_ne]; omega) | (rw [beq_iff_eq]; omega)
  go_enter Tryz.func54, Tryz.ntmps54
  go_wp2_with (first | (go_at_call 82; refine (lex_version.calls k s 6 t 0 0 (n : Int) true _ ?ce HV.out).mono ?_; (case ce => (refine hE.below ?_; repeat (first | refine pw_below_drewN ?_ _ | exact (Below.refl _ _).alloc (Nat.le_refl _) _))); rintro e w1 ⟨rfl, hb⟩; have HB1 : Aside0 (Box4 w w1 (.int .i64 0) (.string ⟨#[]⟩) (.int .i64 0) (.int .i64 0)) := ⟨by first | exact Box4.start hb | exact Box4.start1 hb⟩; clear hb; obtain ⟨m10, m11, m12, m13, g10, g11, g12, g13, lt1, _⟩ := HB1.out; have ne1 : ¬ w.heap.size = w1.heap.size := (by omega); have ne2 : ¬ w1.heap.size = w.heap.size := (by omega)) | (go_at_call 53; refine (lex_digit.calls _ true _ HD.out).mono ?_; rintro e w2 ⟨rfl, nd, rfl⟩) | (go_at_call 78; refine (lex_run.calls _ 53 (m : Int) _ HR.out).mono ?_; rintro e w2 ⟨rfl, nd, rfl⟩))
  refine bodyPost_ret (v := (.tuple #[.agg #[.int .i64 0, .string ⟨#[]⟩, .int .i64 0, .int .i64 0], .int .i64 0, .bool false])) (by simp [results, Tryz.results54, go_sem, cell_alloc_lt, lt1, m10, m11, m12, m13]) rfl ⟨rfl, ?_⟩
  repeat (first | exact HB1.out.bel | refine Below.setCell ?_ (by first | simp | omega | (simp; omega)) _ | refine pw_below_drewN ?_ _ | refine Below.alloc ?_ (by first | omega | (simp; omega)) _)

set_option maxRecDepth 100000 in
set_option maxHeartbeats 1000000 in
theorem num_a_48 (s : ByteArray) (k : Nat) (w : World) (hE : EnvOk w) (hs : s.size ≤ 1000000) (hlt : 0 < s.size) (c : Int) (hc : ((s[0]'hlt).toNat : Int) = c) (t : ByteArray) (n : Nat) (hV : lex_version.f k s = some (6, t, 0, 0, (n : Int), true)) (hn : n < s.size) (hD : lex_digit.f ((s[n]'hn).toNat : Int) = some true) (h45 : c ≠ 45) (m : Nat) (hR : lex_run.f s 53 = some (m : Int)) (hm : m ≤ s.size) (h18 : m ≤ 18) (h1 : 1 < m) (h48 : c = 48) (hd : 0 < (s.extract 0 m).size) (hc1 : (((s.extract 0 m)[0]'hd).toNat : Int) = c) :
    Calls Tryz.prog 54 #[.string s] w fun e w' => e = .returned (.tuple #[.agg #[.int .i64 0, .string ⟨#[]⟩, .int .i64 0, .int .i64 0], .int .i64 0, .bool false]) ∧ Below w.heap.size w w' := by
  have q2 : ((0 : Int) < (s.size : Int)) = True := eq_true (by omega)
  have HV := Aside0.mk hV
  have HD := Aside0.mk hD
  have HR := Aside0.mk hR
  clear hV hD hR
  have e1 : ((n : Int) == (s.size : Int)) = false := by rw [beq_eq_false_iff_ne]; omega
  have q3 := eq_true (show (0 : Int) ≤ (n : Int) by omega)
  have q4 : ((n : Int) < (s.size : Int)) = True := eq_true (by omega)
  have e45 : (c == 45) = false := by first | (rw [beq_eq_false_iff_ne]; exact h45) | (rw [beq_iff_eq]; exact h45)
  clear h45
  have q5 := eq_true (show (0 : Int) ≤ (m : Int) by omega)
  have q6 := eq_true (show (m : Int) ≤ (s.size : Int) by omega)
  have q7 : ((0 : Int) < ((s.extract 0 m).size : Int)) = True := eq_true (by omega)
  have e0 : ((m : Int) == 0) = false := by first | exact decide_eq_true (by omega) | exact decide_eq_false (by omega) | (rw [beq_eq_false_iff_ne]; omega) | (rw [beq_iff_eq]; omega)
  have e18 : decide ((18 : Int) < (m : Int)) = false := by first | exact decide_eq_true (by omega) | exact decide_eq_false (by omega) | (rw [beq_eq_false_iff_ne]; omega) | (rw [beq_iff_eq]; omega)
  have em : decide ((1 : Int) < (m : Int)) = true := by first | exact decide_eq_true (by omega) | exact decide_eq_false (by omega) | (rw [beq_eq_false_iff_ne]; omega) | (rw [beq_iff_eq]; omega)
  have e48 : (c == 48) = true := by first | (rw [beq_eq_false_iff_ne]; exact h48) | (rw [beq_iff_eq]; exact h48)
  clear h48
  go_enter Tryz.func54, Tryz.ntmps54
  go_wp2_with (first | (go_at_call 82; refine (lex_version.calls k s 6 t 0 0 (n : Int) true _ ?ce HV.out).mono ?_; (case ce => (refine hE.below ?_; repeat (first | refine pw_below_drewN ?_ _ | exact (Below.refl _ _).alloc (Nat.le_refl _) _))); rintro e w1 ⟨rfl, hb⟩; have HB1 : Aside0 (Box4 w w1 (.int .i64 0) (.string ⟨#[]⟩) (.int .i64 0) (.int .i64 0)) := ⟨by first | exact Box4.start hb | exact Box4.start1 hb⟩; clear hb; obtain ⟨m10, m11, m12, m13, g10, g11, g12, g13, lt1, _⟩ := HB1.out; have ne1 : ¬ w.heap.size = w1.heap.size := (by omega); have ne2 : ¬ w1.heap.size = w.heap.size := (by omega)) | (go_at_call 53; refine (lex_digit.calls _ true _ HD.out).mono ?_; rintro e w2 ⟨rfl, nd, rfl⟩) | (go_at_call 78; refine (lex_run.calls _ 53 (m : Int) _ HR.out).mono ?_; rintro e w2 ⟨rfl, nd, rfl⟩))
  refine bodyPost_ret (v := (.tuple #[.agg #[.int .i64 0, .string ⟨#[]⟩, .int .i64 0, .int .i64 0], .int .i64 0, .bool false])) (by simp [results, Tryz.results54, go_sem, cell_alloc_lt, lt1, m10, m11, m12, m13]) rfl ⟨rfl, ?_⟩
  repeat (first | exact HB1.out.bel | refine Below.setCell ?_ (by first | simp | omega | (simp; omega)) _ | refine pw_below_drewN ?_ _ | refine Below.alloc ?_ (by first | omega | (simp; omega)) _)

set_option maxRecDepth 100000 in
set_option maxHeartbeats 1000000 in
theorem num_a_one (s : ByteArray) (k : Nat) (w : World) (hE : EnvOk w) (hs : s.size ≤ 1000000) (hlt : 0 < s.size) (c : Int) (hc : ((s[0]'hlt).toNat : Int) = c) (t : ByteArray) (n : Nat) (hV : lex_version.f k s = some (6, t, 0, 0, (n : Int), true)) (hn : n < s.size) (hD : lex_digit.f ((s[n]'hn).toNat : Int) = some true) (h45 : c ≠ 45) (hR : lex_run.f s 53 = some 1)  (x : Int) (hA : strconv_Atoi.f (s.extract 0 1) = some (x, none)) :
    Calls Tryz.prog 54 #[.string s] w fun e w' => e = .returned (.tuple #[.agg #[.int .i64 4, .string ⟨#[]⟩, .int .i64 x, .int .i64 0], .int .i64 1, .bool true]) ∧ Below w.heap.size w w' := by
  have q2 : ((0 : Int) < (s.size : Int)) = True := eq_true (by omega)
  have HV := Aside0.mk hV
  have HD := Aside0.mk hD
  have HR := Aside0.mk hR
  have HA := Aside0.mk hA
  clear hV hD hR hA
  have e1 : ((n : Int) == (s.size : Int)) = false := by rw [beq_eq_false_iff_ne]; omega
  have q3 := eq_true (show (0 : Int) ≤ (n : Int) by omega)
  have q4 : ((n : Int) < (s.size : Int)) = True := eq_true (by omega)
  have e45 : (c == 45) = false := by first | (rw [beq_eq_false_iff_ne]; exact h45) | (rw [beq_iff_eq]; exact h45)
  clear h45
  have q6 := eq_true (show (1 : Int) ≤ (s.size : Int) by omega)
  go_enter Tryz.func54, Tryz.ntmps54
  go_wp2_with (first | (go_at_call 82; refine (lex_version.calls k s 6 t 0 0 (n : Int) true _ ?ce HV.out).mono ?_; (case ce => (refine hE.below ?_; repeat (first | refine pw_below_drewN ?_ _ | exact (Below.refl _ _).alloc (Nat.le_refl _) _))); rintro e w1 ⟨rfl, hb⟩; have HB1 : Aside0 (Box4 w w1 (.int .i64 0) (.string ⟨#[]⟩) (.int .i64 0) (.int .i64 0)) := ⟨by first | exact Box4.start hb | exact Box4.start1 hb⟩; clear hb; obtain ⟨m10, m11, m12, m13, g10, g11, g12, g13, lt1, _⟩ := HB1.out; have ne1 : ¬ w.heap.size = w1.heap.size := (by omega); have ne2 : ¬ w1.heap.size = w.heap.size := (by omega)) | (go_at_call 53; refine (lex_digit.calls _ true _ HD.out).mono ?_; rintro e w2 ⟨rfl, nd, rfl⟩) | (go_at_call 78; refine (lex_run.calls _ 53 1 _ HR.out).mono ?_; rintro e w2 ⟨rfl, nd, rfl⟩) | (go_at_call 67; refine (strconv_Atoi.calls (s.extract 0 1) x none _ ?ce HA.out).mono ?_; (case ce => (refine hE.below ?_; repeat (first | exact HB1.out.bel | refine Below.setCell ?_ (by first | simp | omega | (simp; omega)) _ | refine pw_below_drewN ?_ _ | refine Below.alloc ?_ (by first | omega | (simp; omega)) _))); rintro e w3 ⟨rfl, hb⟩; have HB3 : Aside0 (Box4 w w3 (.int .i64 0) (.string ⟨#[]⟩) (.int .i64 0) (.int .i64 0)) := ⟨by refine Box4.step ?_ hb; repeat (first | exact HB1.out | refine Box4.drewN ?_ _ | refine Box4.alloc ?_ _ | refine Box4.setCell ?_ _ _ (by first | omega | (simp; omega)))⟩; clear hb; obtain ⟨m30, m31, m32, m33, g30, g31, g32, g33, lt3, _⟩ := HB3.out))
  refine bodyPost_ret (v := (.tuple #[.agg #[.int .i64 4, .string ⟨#[]⟩, .int .i64 x, .int .i64 0], .int .i64 1, .bool true])) (by simp [results, Tryz.results54, go_sem, cell_alloc_lt, lt1, m30, m31, m32, m33]) rfl ⟨rfl, ?_⟩
  repeat (first | refine Below.setCell ?_ (by simp) _ | refine pw_below_drewN ?_ _ | exact HB3.out.bel)

set_option maxRecDepth 100000 in
set_option maxHeartbeats 1000000 in
theorem num_a_more (s : ByteArray) (k : Nat) (w : World) (hE : EnvOk w) (hs : s.size ≤ 1000000) (hlt : 0 < s.size) (c : Int) (hc : ((s[0]'hlt).toNat : Int) = c) (t : ByteArray) (n : Nat) (hV : lex_version.f k s = some (6, t, 0, 0, (n : Int), true)) (hn : n < s.size) (hD : lex_digit.f ((s[n]'hn).toNat : Int) = some true) (h45 : c ≠ 45) (m : Nat) (hR : lex_run.f s 53 = some (m : Int)) (hm : m ≤ s.size) (h18 : m ≤ 18) (h1 : 1 < m) (h48 : c ≠ 48) (hd : 0 < (s.extract 0 m).size) (hc1 : (((s.extract 0 m)[0]'hd).toNat : Int) = c) (x : Int) (hA : strconv_Atoi.f (s.extract 0 m) = some (x, none)) :
    Calls Tryz.prog 54 #[.string s] w fun e w' => e = .returned (.tuple #[.agg #[.int .i64 4, .string ⟨#[]⟩, .int .i64 x, .int .i64 0], .int .i64 (m : Int), .bool true]) ∧ Below w.heap.size w w' := by
  have q2 : ((0 : Int) < (s.size : Int)) = True := eq_true (by omega)
  have HV := Aside0.mk hV
  have HD := Aside0.mk hD
  have HR := Aside0.mk hR
  have HA := Aside0.mk hA
  clear hV hD hR hA
  have e1 : ((n : Int) == (s.size : Int)) = false := by rw [beq_eq_false_iff_ne]; omega
  have q3 := eq_true (show (0 : Int) ≤ (n : Int) by omega)
  have q4 : ((n : Int) < (s.size : Int)) = True := eq_true (by omega)
  have e45 : (c == 45) = false := by first | (rw [beq_eq_false_iff_ne]; exact h45) | (rw [beq_iff_eq]; exact h45)
  clear h45
  have q5 := eq_true (show (0 : Int) ≤ (m : Int) by omega)
  have q6 := eq_true (show (m : Int) ≤ (s.size : Int) by omega)
  have q7 : ((0 : Int) < ((s.extract 0 m).size : Int)) = True := eq_true (by omega)
  have e0 : ((m : Int) == 0) = false := by first | exact decide_eq_true (by omega) | exact decide_eq_false (by omega) | (rw [beq_eq_false_iff_ne]; omega) | (rw [beq_iff_eq]; omega)
  have e18 : decide ((18 : Int) < (m : Int)) = false := by first | exact decide_eq_true (by omega) | exact decide_eq_false (by omega) | (rw [beq_eq_false_iff_ne]; omega) | (rw [beq_iff_eq]; omega)
  have em : decide ((1 : Int) < (m : Int)) = true := by first | exact decide_eq_true (by omega) | exact decide_eq_false (by omega) | (rw [beq_eq_false_iff_ne]; omega) | (rw [beq_iff_eq]; omega)
  have e48 : (c == 48) = false := by first | (rw [beq_eq_false_iff_ne]; exact h48) | (rw [beq_iff_eq]; exact h48)
  clear h48
  go_enter Tryz.func54, Tryz.ntmps54
  go_wp2_with (first | (go_at_call 82; refine (lex_version.calls k s 6 t 0 0 (n : Int) true _ ?ce HV.out).mono ?_; (case ce => (refine hE.below ?_; repeat (first | refine pw_below_drewN ?_ _ | exact (Below.refl _ _).alloc (Nat.le_refl _) _))); rintro e w1 ⟨rfl, hb⟩; have HB1 : Aside0 (Box4 w w1 (.int .i64 0) (.string ⟨#[]⟩) (.int .i64 0) (.int .i64 0)) := ⟨by first | exact Box4.start hb | exact Box4.start1 hb⟩; clear hb; obtain ⟨m10, m11, m12, m13, g10, g11, g12, g13, lt1, _⟩ := HB1.out; have ne1 : ¬ w.heap.size = w1.heap.size := (by omega); have ne2 : ¬ w1.heap.size = w.heap.size := (by omega)) | (go_at_call 53; refine (lex_digit.calls _ true _ HD.out).mono ?_; rintro e w2 ⟨rfl, nd, rfl⟩) | (go_at_call 78; refine (lex_run.calls _ 53 (m : Int) _ HR.out).mono ?_; rintro e w2 ⟨rfl, nd, rfl⟩) | (go_at_call 67; refine (strconv_Atoi.calls (s.extract 0 m) x none _ ?ce HA.out).mono ?_; (case ce => (refine hE.below ?_; repeat (first | exact HB1.out.bel | refine Below.setCell ?_ (by first | simp | omega | (simp; omega)) _ | refine pw_below_drewN ?_ _ | refine Below.alloc ?_ (by first | omega | (simp; omega)) _))); rintro e w3 ⟨rfl, hb⟩; have HB3 : Aside0 (Box4 w w3 (.int .i64 0) (.string ⟨#[]⟩) (.int .i64 0) (.int .i64 0)) := ⟨by refine Box4.step ?_ hb; repeat (first | exact HB1.out | refine Box4.drewN ?_ _ | refine Box4.alloc ?_ _ | refine Box4.setCell ?_ _ _ (by first | omega | (simp; omega)))⟩; clear hb; obtain ⟨m30, m31, m32, m33, g30, g31, g32, g33, lt3, _⟩ := HB3.out))
  refine bodyPost_ret (v := (.tuple #[.agg #[.int .i64 4, .string ⟨#[]⟩, .int .i64 x, .int .i64 0], .int .i64 (m : Int), .bool true])) (by simp [results, Tryz.results54, go_sem, cell_alloc_lt, lt1, m30, m31, m32, m33]) rfl ⟨rfl, ?_⟩
  repeat (first | refine Below.setCell ?_ (by simp) _ | refine pw_below_drewN ?_ _ | exact HB3.out.bel)

set_option maxRecDepth 100000 in
set_option maxHeartbeats 1000000 in
theorem num_b_18 (s : ByteArray) (k : Nat) (w : World) (hE : EnvOk w) (hs : s.size ≤ 1000000) (hlt : 0 < s.size) (c : Int) (hc : ((s[0]'hlt).toNat : Int) = c) (a b d e : Int) (t : ByteArray) (hV : lex_version.f k s = some (a, t, b, d, e, false)) (h45 : c ≠ 45) (m : Nat) (hR : lex_run.f s 53 = some (m : Int)) (hm : m ≤ s.size) (h18 : 18 < m) :
    Calls Tryz.prog 54 #[.string s] w fun e w' => e = .returned (.tuple #[.agg #[.int .i64 0, .string ⟨#[]⟩, .int .i64 0, .int .i64 0], .int .i64 0, .bool false]) ∧ Below w.heap.size w w' := by
  have q2 : ((0 : Int) < (s.size : Int)) = True := eq_true (by omega)
  have HV := Aside0.mk hV
  have HR := Aside0.mk hR
  clear hV hR
  have e45 : (c == 45) = false := by first | (rw [beq_eq_false_iff_ne]; exact h45) | (rw [beq_iff_eq]; exact h45)
  clear h45
  have q5 := eq_true (show (0 : Int) ≤ (m : Int) by omega)
  have q6 := eq_true (show (m : Int) ≤ (s.size : Int) by omega)
  have e0 : ((m : Int) == 0) = false := by first | exact decide_eq_true (by omega) | exact decide_eq_false (by omega) | (rw [beq_eq_false_iff_ne]; omega) | (rw [beq_iff_eq]; omega)
  have e18 : decide ((18 : Int) < (m : Int)) = true := by first | exact decide_eq_true (by omega) | exact decide_eq_false (by omega) | (rw [beq_eq_false_iff_ne]; omega) | (rw [beq_iff_eq]; omega)
  go_enter Tryz.func54, Tryz.ntmps54
  go_wp2_with (first | (go_at_call 82; refine (lex_version.calls k s a t b d e false _ ?ce HV.out).mono ?_; (case ce => (refine hE.below ?_; repeat (first | refine pw_below_drewN ?_ _ | exact (Below.refl _ _).alloc (Nat.le_refl _) _))); rintro e w1 ⟨rfl, hb⟩; have HB1 : Aside0 (Box4 w w1 (.int .i64 0) (.string ⟨#[]⟩) (.int .i64 0) (.int .i64 0)) := ⟨by first | exact Box4.start hb | exact Box4.start1 hb⟩; clear hb; obtain ⟨m10, m11, m12, m13, g10, g11, g12, g13, lt1, _⟩ := HB1.out; have ne1 : ¬ w.heap.size = w1.heap.size := (by omega); have ne2 : ¬ w1.heap.size = w.heap.size := (by omega)) | (go_at_call 78; refine (lex_run.calls _ 53 (m : Int) _ HR.out).mono ?_; rintro e w2 ⟨rfl, nd, rfl⟩))
  refine bodyPost_ret (v := (.tuple #[.agg #[.int .i64 0, .string ⟨#[]⟩, .int .i64 0, .int .i64 0], .int .i64 0, .bool false])) (by simp [results, Tryz.results54, go_sem, cell_alloc_lt, lt1, m10, m11, m12, m13]) rfl ⟨rfl, ?_⟩
  repeat (first | exact HB1.out.bel | refine Below.setCell ?_ (by first | simp | omega | (simp; omega)) _ | refine pw_below_drewN ?_ _ | refine Below.alloc ?_ (by first | omega | (simp; omega)) _)

set_option maxRecDepth 100000 in
set_option maxHeartbeats 1000000 in
theorem num_b_48 (s : ByteArray) (k : Nat) (w : World) (hE : EnvOk w) (hs : s.size ≤ 1000000) (hlt : 0 < s.size) (c : Int) (hc : ((s[0]'hlt).toNat : Int) = c) (a b d e : Int) (t : ByteArray) (hV : lex_version.f k s = some (a, t, b, d, e, false)) (h45 : c ≠ 45) (m : Nat) (hR : lex_run.f s 53 = some (m : Int)) (hm : m ≤ s.size) (h18 : m ≤ 18) (h1 : 1 < m) (h48 : c = 48) (hd : 0 < (s.extract 0 m).size) (hc1 : (((s.extract 0 m)[0]'hd).toNat : Int) = c) :
    Calls Tryz.prog 54 #[.string s] w fun e w' => e = .returned (.tuple #[.agg #[.int .i64 0, .string ⟨#[]⟩, .int .i64 0, .int .i64 0], .int .i64 0, .bool false]) ∧ Below w.heap.size w w' := by
  have q2 : ((0 : Int) < (s.size : Int)) = True := eq_true (by omega)
  have HV := Aside0.mk hV
  have HR := Aside0.mk hR
  clear hV hR
  have e45 : (c == 45) = false := by first | (rw [beq_eq_false_iff_ne]; exact h45) | (rw [beq_iff_eq]; exact h45)
  clear h45
  have q5 := eq_true (show (0 : Int) ≤ (m : Int) by omega)
  have q6 := eq_true (show (m : Int) ≤ (s.size : Int) by omega)
  have q7 : ((0 : Int) < ((s.extract 0 m).size : Int)) = True := eq_true (by omega)
  have e0 : ((m : Int) == 0) = false := by first | exact decide_eq_true (by omega) | exact decide_eq_false (by omega) | (rw [beq_eq_false_iff_ne]; omega) | (rw [beq_iff_eq]; omega)
  have e18 : decide ((18 : Int) < (m : Int)) = false := by first | exact decide_eq_true (by omega) | exact decide_eq_false (by omega) | (rw [beq_eq_false_iff_ne]; omega) | (rw [beq_iff_eq]; omega)
  have em : decide ((1 : Int) < (m : Int)) = true := by first | exact decide_eq_true (by omega) | exact decide_eq_false (by omega) | (rw [beq_eq_false_iff_ne]; omega) | (rw [beq_iff_eq]; omega)
  have e48 : (c == 48) = true := by first | (rw [beq_eq_false_iff_ne]; exact h48) | (rw [beq_iff_eq]; exact h48)
  clear h48
  go_enter Tryz.func54, Tryz.ntmps54
  go_wp2_with (first | (go_at_call 82; refine (lex_version.calls k s a t b d e false _ ?ce HV.out).mono ?_; (case ce => (refine hE.below ?_; repeat (first | refine pw_below_drewN ?_ _ | exact (Below.refl _ _).alloc (Nat.le_refl _) _))); rintro e w1 ⟨rfl, hb⟩; have HB1 : Aside0 (Box4 w w1 (.int .i64 0) (.string ⟨#[]⟩) (.int .i64 0) (.int .i64 0)) := ⟨by first | exact Box4.start hb | exact Box4.start1 hb⟩; clear hb; obtain ⟨m10, m11, m12, m13, g10, g11, g12, g13, lt1, _⟩ := HB1.out; have ne1 : ¬ w.heap.size = w1.heap.size := (by omega); have ne2 : ¬ w1.heap.size = w.heap.size := (by omega)) | (go_at_call 78; refine (lex_run.calls _ 53 (m : Int) _ HR.out).mono ?_; rintro e w2 ⟨rfl, nd, rfl⟩))
  refine bodyPost_ret (v := (.tuple #[.agg #[.int .i64 0, .string ⟨#[]⟩, .int .i64 0, .int .i64 0], .int .i64 0, .bool false])) (by simp [results, Tryz.results54, go_sem, cell_alloc_lt, lt1, m10, m11, m12, m13]) rfl ⟨rfl, ?_⟩
  repeat (first | exact HB1.out.bel | refine Below.setCell ?_ (by first | simp | omega | (simp; omega)) _ | refine pw_below_drewN ?_ _ | refine Below.alloc ?_ (by first | omega | (simp; omega)) _)

set_option maxRecDepth 100000 in
set_option maxHeartbeats 1000000 in
theorem num_b_one (s : ByteArray) (k : Nat) (w : World) (hE : EnvOk w) (hs : s.size ≤ 1000000) (hlt : 0 < s.size) (c : Int) (hc : ((s[0]'hlt).toNat : Int) = c) (a b d e : Int) (t : ByteArray) (hV : lex_version.f k s = some (a, t, b, d, e, false)) (h45 : c ≠ 45) (hR : lex_run.f s 53 = some 1)  (x : Int) (hA : strconv_Atoi.f (s.extract 0 1) = some (x, none)) :
    Calls Tryz.prog 54 #[.string s] w fun e w' => e = .returned (.tuple #[.agg #[.int .i64 4, .string ⟨#[]⟩, .int .i64 x, .int .i64 0], .int .i64 1, .bool true]) ∧ Below w.heap.size w w' := by
  have q2 : ((0 : Int) < (s.size : Int)) = True := eq_true (by omega)
  have HV := Aside0.mk hV
  have HR := Aside0.mk hR
  have HA := Aside0.mk hA
  clear hV hR hA
  have e45 : (c == 45) = false := by first | (rw [beq_eq_false_iff_ne]; exact h45) | (rw [beq_iff_eq]; exact h45)
  clear h45
  have q6 := eq_true (show (1 : Int) ≤ (s.size : Int) by omega)
  go_enter Tryz.func54, Tryz.ntmps54
  go_wp2_with (first | (go_at_call 82; refine (lex_version.calls k s a t b d e false _ ?ce HV.out).mono ?_; (case ce => (refine hE.below ?_; repeat (first | refine pw_below_drewN ?_ _ | exact (Below.refl _ _).alloc (Nat.le_refl _) _))); rintro e w1 ⟨rfl, hb⟩; have HB1 : Aside0 (Box4 w w1 (.int .i64 0) (.string ⟨#[]⟩) (.int .i64 0) (.int .i64 0)) := ⟨by first | exact Box4.start hb | exact Box4.start1 hb⟩; clear hb; obtain ⟨m10, m11, m12, m13, g10, g11, g12, g13, lt1, _⟩ := HB1.out; have ne1 : ¬ w.heap.size = w1.heap.size := (by omega); have ne2 : ¬ w1.heap.size = w.heap.size := (by omega)) | (go_at_call 78; refine (lex_run.calls _ 53 1 _ HR.out).mono ?_; rintro e w2 ⟨rfl, nd, rfl⟩) | (go_at_call 67; refine (strconv_Atoi.calls (s.extract 0 1) x none _ ?ce HA.out).mono ?_; (case ce => (refine hE.below ?_; repeat (first | exact HB1.out.bel | refine Below.setCell ?_ (by first | simp | omega | (simp; omega)) _ | refine pw_below_drewN ?_ _ | refine Below.alloc ?_ (by first | omega | (simp; omega)) _))); rintro e w3 ⟨rfl, hb⟩; have HB3 : Aside0 (Box4 w w3 (.int .i64 0) (.string ⟨#[]⟩) (.int .i64 0) (.int .i64 0)) := ⟨by refine Box4.step ?_ hb; repeat (first | exact HB1.out | refine Box4.drewN ?_ _ | refine Box4.alloc ?_ _ | refine Box4.setCell ?_ _ _ (by first | omega | (simp; omega)))⟩; clear hb; obtain ⟨m30, m31, m32, m33, g30, g31, g32, g33, lt3, _⟩ := HB3.out))
  refine bodyPost_ret (v := (.tuple #[.agg #[.int .i64 4, .string ⟨#[]⟩, .int .i64 x, .int .i64 0], .int .i64 1, .bool true])) (by simp [results, Tryz.results54, go_sem, cell_alloc_lt, lt1, m30, m31, m32, m33]) rfl ⟨rfl, ?_⟩
  repeat (first | refine Below.setCell ?_ (by simp) _ | refine pw_below_drewN ?_ _ | exact HB3.out.bel)

set_option maxRecDepth 100000 in
set_option maxHeartbeats 1000000 in
theorem num_b_more (s : ByteArray) (k : Nat) (w : World) (hE : EnvOk w) (hs : s.size ≤ 1000000) (hlt : 0 < s.size) (c : Int) (hc : ((s[0]'hlt).toNat : Int) = c) (a b d e : Int) (t : ByteArray) (hV : lex_version.f k s = some (a, t, b, d, e, false)) (h45 : c ≠ 45) (m : Nat) (hR : lex_run.f s 53 = some (m : Int)) (hm : m ≤ s.size) (h18 : m ≤ 18) (h1 : 1 < m) (h48 : c ≠ 48) (hd : 0 < (s.extract 0 m).size) (hc1 : (((s.extract 0 m)[0]'hd).toNat : Int) = c) (x : Int) (hA : strconv_Atoi.f (s.extract 0 m) = some (x, none)) :
    Calls Tryz.prog 54 #[.string s] w fun e w' => e = .returned (.tuple #[.agg #[.int .i64 4, .string ⟨#[]⟩, .int .i64 x, .int .i64 0], .int .i64 (m : Int), .bool true]) ∧ Below w.heap.size w w' := by
  have q2 : ((0 : Int) < (s.size : Int)) = True := eq_true (by omega)
  have HV := Aside0.mk hV
  have HR := Aside0.mk hR
  have HA := Aside0.mk hA
  clear hV hR hA
  have e45 : (c == 45) = false := by first | (rw [beq_eq_false_iff_ne]; exact h45) | (rw [beq_iff_eq]; exact h45)
  clear h45
  have q5 := eq_true (show (0 : Int) ≤ (m : Int) by omega)
  have q6 := eq_true (show (m : Int) ≤ (s.size : Int) by omega)
  have q7 : ((0 : Int) < ((s.extract 0 m).size : Int)) = True := eq_true (by omega)
  have e0 : ((m : Int) == 0) = false := by first | exact decide_eq_true (by omega) | exact decide_eq_false (by omega) | (rw [beq_eq_false_iff_ne]; omega) | (rw [beq_iff_eq]; omega)
  have e18 : decide ((18 : Int) < (m : Int)) = false := by first | exact decide_eq_true (by omega) | exact decide_eq_false (by omega) | (rw [beq_eq_false_iff_ne]; omega) | (rw [beq_iff_eq]; omega)
  have em : decide ((1 : Int) < (m : Int)) = true := by first | exact decide_eq_true (by omega) | exact decide_eq_false (by omega) | (rw [beq_eq_false_iff_ne]; omega) | (rw [beq_iff_eq]; omega)
  have e48 : (c == 48) = false := by first | (rw [beq_eq_false_iff_ne]; exact h48) | (rw [beq_iff_eq]; exact h48)
  clear h48
  go_enter Tryz.func54, Tryz.ntmps54
  go_wp2_with (first | (go_at_call 82; refine (lex_version.calls k s a t b d e false _ ?ce HV.out).mono ?_; (case ce => (refine hE.below ?_; repeat (first | refine pw_below_drewN ?_ _ | exact (Below.refl _ _).alloc (Nat.le_refl _) _))); rintro e w1 ⟨rfl, hb⟩; have HB1 : Aside0 (Box4 w w1 (.int .i64 0) (.string ⟨#[]⟩) (.int .i64 0) (.int .i64 0)) := ⟨by first | exact Box4.start hb | exact Box4.start1 hb⟩; clear hb; obtain ⟨m10, m11, m12, m13, g10, g11, g12, g13, lt1, _⟩ := HB1.out; have ne1 : ¬ w.heap.size = w1.heap.size := (by omega); have ne2 : ¬ w1.heap.size = w.heap.size := (by omega)) | (go_at_call 78; refine (lex_run.calls _ 53 (m : Int) _ HR.out).mono ?_; rintro e w2 ⟨rfl, nd, rfl⟩) | (go_at_call 67; refine (strconv_Atoi.calls (s.extract 0 m) x none _ ?ce HA.out).mono ?_; (case ce => (refine hE.below ?_; repeat (first | exact HB1.out.bel | refine Below.setCell ?_ (by first | simp | omega | (simp; omega)) _ | refine pw_below_drewN ?_ _ | refine Below.alloc ?_ (by first | omega | (simp; omega)) _))); rintro e w3 ⟨rfl, hb⟩; have HB3 : Aside0 (Box4 w w3 (.int .i64 0) (.string ⟨#[]⟩) (.int .i64 0) (.int .i64 0)) := ⟨by refine Box4.step ?_ hb; repeat (first | exact HB1.out | refine Box4.drewN ?_ _ | refine Box4.alloc ?_ _ | refine Box4.setCell ?_ _ _ (by first | omega | (simp; omega)))⟩; clear hb; obtain ⟨m30, m31, m32, m33, g30, g31, g32, g33, lt3, _⟩ := HB3.out))
  refine bodyPost_ret (v := (.tuple #[.agg #[.int .i64 4, .string ⟨#[]⟩, .int .i64 x, .int .i64 0], .int .i64 (m : Int), .bool true])) (by simp [results, Tryz.results54, go_sem, cell_alloc_lt, lt1, m30, m31, m32, m33]) rfl ⟨rfl, ?_⟩
  repeat (first | refine Below.setCell ?_ (by simp) _ | refine pw_below_drewN ?_ _ | exact HB3.out.bel)

set_option maxRecDepth 100000 in
set_option maxHeartbeats 1000000 in
theorem num_m_0 (s : ByteArray) (k : Nat) (w : World) (hE : EnvOk w) (hs : s.size ≤ 1000000) (hlt : 0 < s.size) (c : Int) (hc : ((s[0]'hlt).toNat : Int) = c) (a b d e : Int) (t : ByteArray) (hV : lex_version.f k s = some (a, t, b, d, e, false)) (h45 : c = 45) (hR : lex_run.f (s.extract 1 s.size) 53 = some 0) (hm : 1 + 0 ≤ s.size) :
    Calls Tryz.prog 54 #[.string s] w fun e w' => e = .returned (.tuple #[.agg #[.int .i64 0, .string ⟨#[]⟩, .int .i64 0, .int .i64 0], .int .i64 0, .bool false]) ∧ Below w.heap.size w w' := by
  have q2 : ((0 : Int) < (s.size : Int)) = True := eq_true (by omega)
  have HV := Aside0.mk hV
  have HR := Aside0.mk hR
  clear hV hR
  have e45 : (c == 45) = true := by first | (rw [beq_eq_false_iff_ne]; exact h45) | (rw [beq_iff_eq]; exact h45)
  clear h45
  have q5 := eq_true (show (1 : Int) ≤ (1 : Int) by omega)
  have q6 := eq_true (show (1 : Int) ≤ (s.size : Int) by omega)
  have q8 := eq_true (show (1 : Int) ≤ (s.size : Int) by omega)
  have q9 := eq_true (show (0 : Int) ≤ (1 : Int) by omega)
  go_enter Tryz.func54, Tryz.ntmps54
  go_wp2_with (first | (go_at_call 82; refine (lex_version.calls k s a t b d e false _ ?ce HV.out).mono ?_; (case ce => (refine hE.below ?_; repeat (first | refine pw_below_drewN ?_ _ | exact (Below.refl _ _).alloc (Nat.le_refl _) _))); rintro e w1 ⟨rfl, hb⟩; have HB1 : Aside0 (Box4 w w1 (.int .i64 0) (.string ⟨#[]⟩) (.int .i64 0) (.int .i64 0)) := ⟨by first | exact Box4.start hb | exact Box4.start1 hb⟩; clear hb; obtain ⟨m10, m11, m12, m13, g10, g11, g12, g13, lt1, _⟩ := HB1.out; have ne1 : ¬ w.heap.size = w1.heap.size := (by omega); have ne2 : ¬ w1.heap.size = w.heap.size := (by omega)) | (go_at_call 78; refine (lex_run.calls _ 53 0 _ HR.out).mono ?_; rintro e w2 ⟨rfl, nd, rfl⟩))
  refine bodyPost_ret (v := (.tuple #[.agg #[.int .i64 0, .string ⟨#[]⟩, .int .i64 0, .int .i64 0], .int .i64 0, .bool false])) (by simp [results, Tryz.results54, go_sem, cell_alloc_lt, lt1, m10, m11, m12, m13]) rfl ⟨rfl, ?_⟩
  repeat (first | exact HB1.out.bel | refine Below.setCell ?_ (by first | simp | omega | (simp; omega)) _ | refine pw_below_drewN ?_ _ | refine Below.alloc ?_ (by first | omega | (simp; omega)) _)

set_option maxRecDepth 100000 in
set_option maxHeartbeats 1000000 in
theorem num_m_18 (s : ByteArray) (k : Nat) (w : World) (hE : EnvOk w) (hs : s.size ≤ 1000000) (hlt : 0 < s.size) (c : Int) (hc : ((s[0]'hlt).toNat : Int) = c) (a b d e : Int) (t : ByteArray) (hV : lex_version.f k s = some (a, t, b, d, e, false)) (h45 : c = 45) (m : Nat) (hR : lex_run.f (s.extract 1 s.size) 53 = some (m : Int)) (hm : 1 + m ≤ s.size) (h18 : 18 < m) :
    Calls Tryz.prog 54 #[.string s] w fun e w' => e = .returned (.tuple #[.agg #[.int .i64 0, .string ⟨#[]⟩, .int .i64 0, .int .i64 0], .int .i64 0, .bool false]) ∧ Below w.heap.size w w' := by
  have q2 : ((0 : Int) < (s.size : Int)) = True := eq_true (by omega)
  have HV := Aside0.mk hV
  have HR := Aside0.mk hR
  clear hV hR
  have e45 : (c == 45) = true := by first | (rw [beq_eq_false_iff_ne]; exact h45) | (rw [beq_iff_eq]; exact h45)
  clear h45
  have q5 := eq_true (show (1 : Int) ≤ (1 : Int) + (m : Int) by omega)
  have q6 := eq_true (show (1 : Int) + (m : Int) ≤ (s.size : Int) by omega)
  have q8 := eq_true (show (1 : Int) ≤ (s.size : Int) by omega)
  have q9 := eq_true (show (0 : Int) ≤ (1 : Int) + (m : Int) by omega)
  have e0 : ((m : Int) == 0) = false := by first | exact decide_eq_true (by omega) | exact decide_eq_false (by omega) | (rw [beq_eq_false_iff_ne]; omega) | (rw [beq_iff_eq]; omega)
  have e18 : decide ((18 : Int) < (m : Int)) = true := by first | exact decide_eq_true (by omega) | exact decide_eq_false (by omega) | (rw [beq_eq_false_iff_ne]; omega) | (rw [beq_iff_eq]; omega)
  go_enter Tryz.func54, Tryz.ntmps54
  go_wp2_with (first | (go_at_call 82; refine (lex_version.calls k s a t b d e false _ ?ce HV.out).mono ?_; (case ce => (refine hE.below ?_; repeat (first | refine pw_below_drewN ?_ _ | exact (Below.refl _ _).alloc (Nat.le_refl _) _))); rintro e w1 ⟨rfl, hb⟩; have HB1 : Aside0 (Box4 w w1 (.int .i64 0) (.string ⟨#[]⟩) (.int .i64 0) (.int .i64 0)) := ⟨by first | exact Box4.start hb | exact Box4.start1 hb⟩; clear hb; obtain ⟨m10, m11, m12, m13, g10, g11, g12, g13, lt1, _⟩ := HB1.out; have ne1 : ¬ w.heap.size = w1.heap.size := (by omega); have ne2 : ¬ w1.heap.size = w.heap.size := (by omega)) | (go_at_call 78; refine (lex_run.calls _ 53 (m : Int) _ HR.out).mono ?_; rintro e w2 ⟨rfl, nd, rfl⟩))
  refine bodyPost_ret (v := (.tuple #[.agg #[.int .i64 0, .string ⟨#[]⟩, .int .i64 0, .int .i64 0], .int .i64 0, .bool false])) (by simp [results, Tryz.results54, go_sem, cell_alloc_lt, lt1, m10, m11, m12, m13]) rfl ⟨rfl, ?_⟩
  repeat (first | exact HB1.out.bel | refine Below.setCell ?_ (by first | simp | omega | (simp; omega)) _ | refine pw_below_drewN ?_ _ | refine Below.alloc ?_ (by first | omega | (simp; omega)) _)

set_option maxRecDepth 100000 in
set_option maxHeartbeats 1000000 in
theorem num_m_48 (s : ByteArray) (k : Nat) (w : World) (hE : EnvOk w) (hs : s.size ≤ 1000000) (hlt : 0 < s.size) (c : Int) (hc : ((s[0]'hlt).toNat : Int) = c) (a b d e : Int) (t : ByteArray) (hV : lex_version.f k s = some (a, t, b, d, e, false)) (h45 : c = 45) (m : Nat) (hR : lex_run.f (s.extract 1 s.size) 53 = some (m : Int)) (hm : 1 + m ≤ s.size) (h18 : m ≤ 18) (h1 : 1 < m) (hd : 0 < (s.extract 1 (1 + m)).size) (b0 : Int) (hc1 : (((s.extract 1 (1 + m))[0]'hd).toNat : Int) = b0) (h48 : b0 = 48) :
    Calls Tryz.prog 54 #[.string s] w fun e w' => e = .returned (.tuple #[.agg #[.int .i64 0, .string ⟨#[]⟩, .int .i64 0, .int .i64 0], .int .i64 0, .bool false]) ∧ Below w.heap.size w w' := by
  have q2 : ((0 : Int) < (s.size : Int)) = True := eq_true (by omega)
  have HV := Aside0.mk hV
  have HR := Aside0.mk hR
  clear hV hR
  have e45 : (c == 45) = true := by first | (rw [beq_eq_false_iff_ne]; exact h45) | (rw [beq_iff_eq]; exact h45)
  clear h45
  have q5 := eq_true (show (1 : Int) ≤ (1 : Int) + (m : Int) by omega)
  have q6 := eq_true (show (1 : Int) + (m : Int) ≤ (s.size : Int) by omega)
  have q8 := eq_true (show (1 : Int) ≤ (s.size : Int) by omega)
  have q9 := eq_true (show (0 : Int) ≤ (1 : Int) + (m : Int) by omega)
  have q7 : ((0 : Int) < ((s.extract 1 (1 + m)).size : Int)) = True := eq_true (by omega)
  have e0 : ((m : Int) == 0) = false := by first | exact decide_eq_true (by omega) | exact decide_eq_false (by omega) | (rw [beq_eq_false_iff_ne]; omega) | (rw [beq_iff_eq]; omega)
  have e18 : decide ((18 : Int) < (m : Int)) = false := by first | exact decide_eq_true (by omega) | exact decide_eq_false (by omega) | (rw [beq_eq_false_iff_ne]; omega) | (rw [beq_iff_eq]; omega)
  have em : decide ((1 : Int) < (m : Int)) = true := by first | exact decide_eq_true (by omega) | exact decide_eq_false (by omega) | (rw [beq_eq_false_iff_ne]; omega) | (rw [beq_iff_eq]; omega)
  have e48 : (b0 == 48) = true := by first | (rw [beq_eq_false_iff_ne]; exact h48) | (rw [beq_iff_eq]; exact h48)
  clear h48
  go_enter Tryz.func54, Tryz.ntmps54
  go_wp2_with (first | (go_at_call 82; refine (lex_version.calls k s a t b d e false _ ?ce HV.out).mono ?_; (case ce => (refine hE.below ?_; repeat (first | refine pw_below_drewN ?_ _ | exact (Below.refl _ _).alloc (Nat.le_refl _) _))); rintro e w1 ⟨rfl, hb⟩; have HB1 : Aside0 (Box4 w w1 (.int .i64 0) (.string ⟨#[]⟩) (.int .i64 0) (.int .i64 0)) := ⟨by first | exact Box4.start hb | exact Box4.start1 hb⟩; clear hb; obtain ⟨m10, m11, m12, m13, g10, g11, g12, g13, lt1, _⟩ := HB1.out; have ne1 : ¬ w.heap.size = w1.heap.size := (by omega); have ne2 : ¬ w1.heap.size = w.heap.size := (by omega)) | (go_at_call 78; refine (lex_run.calls _ 53 (m : Int) _ HR.out).mono ?_; rintro e w2 ⟨rfl, nd, rfl⟩))
  refine bodyPost_ret (v := (.tuple #[.agg #[.int .i64 0, .string ⟨#[]⟩, .int .i64 0, .int .i64 0], .int .i64 0, .bool false])) (by simp [results, Tryz.results54, go_sem, cell_alloc_lt, lt1, m10, m11, m12, m13]) rfl ⟨rfl, ?_⟩
  repeat (first | exact HB1.out.bel | refine Below.setCell ?_ (by first | simp | omega | (simp; omega)) _ | refine pw_below_drewN ?_ _ | refine Below.alloc ?_ (by first | omega | (simp; omega)) _)

set_option maxRecDepth 100000 in
set_option maxHeartbeats 1000000 in
theorem num_m_zero (s : ByteArray) (k : Nat) (w : World) (hE : EnvOk w) (hs : s.size ≤ 1000000) (hlt : 0 < s.size) (c : Int) (hc : ((s[0]'hlt).toNat : Int) = c) (a b d e : Int) (t : ByteArray) (hV : lex_version.f k s = some (a, t, b, d, e, false)) (h45 : c = 45) (hR : lex_run.f (s.extract 1 s.size) 53 = some 1) (hm : 1 + 1 ≤ s.size) (hU : ((s.extract 1 2).toList == ([48] : List UInt8)) = true) :
    Calls Tryz.prog 54 #[.string s] w fun e w' => e = .returned (.tuple #[.agg #[.int .i64 0, .string ⟨#[]⟩, .int .i64 0, .int .i64 0], .int .i64 0, .bool false]) ∧ Below w.heap.size w w' := by
  have q2 : ((0 : Int) < (s.size : Int)) = True := eq_true (by omega)
  have HV := Aside0.mk hV
  have HR := Aside0.mk hR
  clear hV hR
  have e45 : (c == 45) = true := by first | (rw [beq_eq_false_iff_ne]; exact h45) | (rw [beq_iff_eq]; exact h45)
  clear h45
  have q5 := eq_true (show (1 : Int) ≤ (2 : Int) by omega)
  have q6 := eq_true (show (2 : Int) ≤ (s.size : Int) by omega)
  have q8 := eq_true (show (1 : Int) ≤ (s.size : Int) by omega)
  have q9 := eq_true (show (0 : Int) ≤ (2 : Int) by omega)
  go_enter Tryz.func54, Tryz.ntmps54
  go_wp2_with (first | (go_at_call 82; refine (lex_version.calls k s a t b d e false _ ?ce HV.out).mono ?_; (case ce => (refine hE.below ?_; repeat (first | refine pw_below_drewN ?_ _ | exact (Below.refl _ _).alloc (Nat.le_refl _) _))); rintro e w1 ⟨rfl, hb⟩; have HB1 : Aside0 (Box4 w w1 (.int .i64 0) (.string ⟨#[]⟩) (.int .i64 0) (.int .i64 0)) := ⟨by first | exact Box4.start hb | exact Box4.start1 hb⟩; clear hb; obtain ⟨m10, m11, m12, m13, g10, g11, g12, g13, lt1, _⟩ := HB1.out; have ne1 : ¬ w.heap.size = w1.heap.size := (by omega); have ne2 : ¬ w1.heap.size = w.heap.size := (by omega)) | (go_at_call 78; refine (lex_run.calls _ 53 1 _ HR.out).mono ?_; rintro e w2 ⟨rfl, nd, rfl⟩))
  refine bodyPost_ret (v := (.tuple #[.agg #[.int .i64 0, .string ⟨#[]⟩, .int .i64 0, .int .i64 0], .int .i64 0, .bool false])) (by simp [results, Tryz.results54, go_sem, cell_alloc_lt, lt1, m10, m11, m12, m13]) rfl ⟨rfl, ?_⟩
  repeat (first | exact HB1.out.bel | refine Below.setCell ?_ (by first | simp | omega | (simp; omega)) _ | refine pw_below_drewN ?_ _ | refine Below.alloc ?_ (by first | omega | (simp; omega)) _)

set_option maxRecDepth 100000 in
set_option maxHeartbeats 1000000 in
theorem num_m_one (s : ByteArray) (k : Nat) (w : World) (hE : EnvOk w) (hs : s.size ≤ 1000000) (hlt : 0 < s.size) (c : Int) (hc : ((s[0]'hlt).toNat : Int) = c) (a b d e : Int) (t : ByteArray) (hV : lex_version.f k s = some (a, t, b, d, e, false)) (h45 : c = 45) (hR : lex_run.f (s.extract 1 s.size) 53 = some 1) (hm : 1 + 1 ≤ s.size) (hU : ((s.extract 1 2).toList == ([48] : List UInt8)) = false) (x : Int) (hA : strconv_Atoi.f (s.extract 0 2) = some (x, none)) :
    Calls Tryz.prog 54 #[.string s] w fun e w' => e = .returned (.tuple #[.agg #[.int .i64 4, .string ⟨#[]⟩, .int .i64 x, .int .i64 0], .int .i64 2, .bool true]) ∧ Below w.heap.size w w' := by
  have q2 : ((0 : Int) < (s.size : Int)) = True := eq_true (by omega)
  have HV := Aside0.mk hV
  have HR := Aside0.mk hR
  have HA := Aside0.mk hA
  clear hV hR hA
  have e45 : (c == 45) = true := by first | (rw [beq_eq_false_iff_ne]; exact h45) | (rw [beq_iff_eq]; exact h45)
  clear h45
  have q5 := eq_true (show (1 : Int) ≤ (2 : Int) by omega)
  have q6 := eq_true (show (2 : Int) ≤ (s.size : Int) by omega)
  have q8 := eq_true (show (1 : Int) ≤ (s.size : Int) by omega)
  have q9 := eq_true (show (0 : Int) ≤ (2 : Int) by omega)
  go_enter Tryz.func54, Tryz.ntmps54
  go_wp2_with (first | (go_at_call 82; refine (lex_version.calls k s a t b d e false _ ?ce HV.out).mono ?_; (case ce => (refine hE.below ?_; repeat (first | refine pw_below_drewN ?_ _ | exact (Below.refl _ _).alloc (Nat.le_refl _) _))); rintro e w1 ⟨rfl, hb⟩; have HB1 : Aside0 (Box4 w w1 (.int .i64 0) (.string ⟨#[]⟩) (.int .i64 0) (.int .i64 0)) := ⟨by first | exact Box4.start hb | exact Box4.start1 hb⟩; clear hb; obtain ⟨m10, m11, m12, m13, g10, g11, g12, g13, lt1, _⟩ := HB1.out; have ne1 : ¬ w.heap.size = w1.heap.size := (by omega); have ne2 : ¬ w1.heap.size = w.heap.size := (by omega)) | (go_at_call 78; refine (lex_run.calls _ 53 1 _ HR.out).mono ?_; rintro e w2 ⟨rfl, nd, rfl⟩) | (go_at_call 67; refine (strconv_Atoi.calls (s.extract 0 2) x none _ ?ce HA.out).mono ?_; (case ce => (refine hE.below ?_; repeat (first | exact HB1.out.bel | refine Below.setCell ?_ (by first | simp | omega | (simp; omega)) _ | refine pw_below_drewN ?_ _ | refine Below.alloc ?_ (by first | omega | (simp; omega)) _))); rintro e w3 ⟨rfl, hb⟩; have HB3 : Aside0 (Box4 w w3 (.int .i64 0) (.string ⟨#[]⟩) (.int .i64 0) (.int .i64 0)) := ⟨by refine Box4.step ?_ hb; repeat (first | exact HB1.out | refine Box4.drewN ?_ _ | refine Box4.alloc ?_ _ | refine Box4.setCell ?_ _ _ (by first | omega | (simp; omega)))⟩; clear hb; obtain ⟨m30, m31, m32, m33, g30, g31, g32, g33, lt3, _⟩ := HB3.out))
  refine bodyPost_ret (v := (.tuple #[.agg #[.int .i64 4, .string ⟨#[]⟩, .int .i64 x, .int .i64 0], .int .i64 2, .bool true])) (by simp [results, Tryz.results54, go_sem, cell_alloc_lt, lt1, m30, m31, m32, m33]) rfl ⟨rfl, ?_⟩
  repeat (first | refine Below.setCell ?_ (by simp) _ | refine pw_below_drewN ?_ _ | exact HB3.out.bel)

set_option maxRecDepth 100000 in
set_option maxHeartbeats 1000000 in
theorem num_m_more (s : ByteArray) (k : Nat) (w : World) (hE : EnvOk w) (hs : s.size ≤ 1000000) (hlt : 0 < s.size) (c : Int) (hc : ((s[0]'hlt).toNat : Int) = c) (a b d e : Int) (t : ByteArray) (hV : lex_version.f k s = some (a, t, b, d, e, false)) (h45 : c = 45) (m : Nat) (hR : lex_run.f (s.extract 1 s.size) 53 = some (m : Int)) (hm : 1 + m ≤ s.size) (h18 : m ≤ 18) (h1 : 1 < m) (hd : 0 < (s.extract 1 (1 + m)).size) (b0 : Int) (hc1 : (((s.extract 1 (1 + m))[0]'hd).toNat : Int) = b0) (h48 : b0 ≠ 48) (hU : ((s.extract 1 (1 + m)).toList == ([48] : List UInt8)) = false) (x : Int) (hA : strconv_Atoi.f (s.extract 0 (1 + m)) = some (x, none)) :
    Calls Tryz.prog 54 #[.string s] w fun e w' => e = .returned (.tuple #[.agg #[.int .i64 4, .string ⟨#[]⟩, .int .i64 x, .int .i64 0], .int .i64 ((1 : Int) + (m : Int)), .bool true]) ∧ Below w.heap.size w w' := by
  have q2 : ((0 : Int) < (s.size : Int)) = True := eq_true (by omega)
  have HV := Aside0.mk hV
  have HR := Aside0.mk hR
  have HA := Aside0.mk hA
  clear hV hR hA
  have e45 : (c == 45) = true := by first | (rw [beq_eq_false_iff_ne]; exact h45) | (rw [beq_iff_eq]; exact h45)
  clear h45
  have q5 := eq_true (show (1 : Int) ≤ (1 : Int) + (m : Int) by omega)
  have q6 := eq_true (show (1 : Int) + (m : Int) ≤ (s.size : Int) by omega)
  have q8 := eq_true (show (1 : Int) ≤ (s.size : Int) by omega)
  have q9 := eq_true (show (0 : Int) ≤ (1 : Int) + (m : Int) by omega)
  have q7 : ((0 : Int) < ((s.extract 1 (1 + m)).size : Int)) = True := eq_true (by omega)
  have e0 : ((m : Int) == 0) = false := by first | exact decide_eq_true (by omega) | exact decide_eq_false (by omega) | (rw [beq_eq_false_iff_ne]; omega) | (rw [beq_iff_eq]; omega)
  have e18 : decide ((18 : Int) < (m : Int)) = false := by first | exact decide_eq_true (by omega) | exact decide_eq_false (by omega) | (rw [beq_eq_false_iff_ne]; omega) | (rw [beq_iff_eq]; omega)
  have em : decide ((1 : Int) < (m : Int)) = true := by first | exact decide_eq_true (by omega) | exact decide_eq_false (by omega) | (rw [beq_eq_false_iff_ne]; omega) | (rw [beq_iff_eq]; omega)
  have e48 : (b0 == 48) = false := by first | (rw [beq_eq_false_iff_ne]; exact h48) | (rw [beq_iff_eq]; exact h48)
  clear h48
  go_enter Tryz.func54, Tryz.ntmps54
  go_wp2_with (first | (go_at_call 82; refine (lex_version.calls k s a t b d e false _ ?ce HV.out).mono ?_; (case ce => (refine hE.below ?_; repeat (first | refine pw_below_drewN ?_ _ | exact (Below.refl _ _).alloc (Nat.le_refl _) _))); rintro e w1 ⟨rfl, hb⟩; have HB1 : Aside0 (Box4 w w1 (.int .i64 0) (.string ⟨#[]⟩) (.int .i64 0) (.int .i64 0)) := ⟨by first | exact Box4.start hb | exact Box4.start1 hb⟩; clear hb; obtain ⟨m10, m11, m12, m13, g10, g11, g12, g13, lt1, _⟩ := HB1.out; have ne1 : ¬ w.heap.size = w1.heap.size := (by omega); have ne2 : ¬ w1.heap.size = w.heap.size := (by omega)) | (go_at_call 78; refine (lex_run.calls _ 53 (m : Int) _ HR.out).mono ?_; rintro e w2 ⟨rfl, nd, rfl⟩) | (go_at_call 67; refine (strconv_Atoi.calls (s.extract 0 (1 + m)) x none _ ?ce HA.out).mono ?_; (case ce => (refine hE.below ?_; repeat (first | exact HB1.out.bel | refine Below.setCell ?_ (by first | simp | omega | (simp; omega)) _ | refine pw_below_drewN ?_ _ | refine Below.alloc ?_ (by first | omega | (simp; omega)) _))); rintro e w3 ⟨rfl, hb⟩; have HB3 : Aside0 (Box4 w w3 (.int .i64 0) (.string ⟨#[]⟩) (.int .i64 0) (.int .i64 0)) := ⟨by refine Box4.step ?_ hb; repeat (first | exact HB1.out | refine Box4.drewN ?_ _ | refine Box4.alloc ?_ _ | refine Box4.setCell ?_ _ _ (by first | omega | (simp; omega)))⟩; clear hb; obtain ⟨m30, m31, m32, m33, g30, g31, g32, g33, lt3, _⟩ := HB3.out))
  refine bodyPost_ret (v := (.tuple #[.agg #[.int .i64 4, .string ⟨#[]⟩, .int .i64 x, .int .i64 0], .int .i64 ((1 : Int) + (m : Int)), .bool true])) (by simp [results, Tryz.results54, go_sem, cell_alloc_lt, lt1, m30, m31, m32, m33]) rfl ⟨rfl, ?_⟩
  repeat (first | refine Below.setCell ?_ (by simp) _ | refine pw_below_drewN ?_ _ | exact HB3.out.bel)

end Go.Proofs.YtaikpnenegifnaaGreatDoor
