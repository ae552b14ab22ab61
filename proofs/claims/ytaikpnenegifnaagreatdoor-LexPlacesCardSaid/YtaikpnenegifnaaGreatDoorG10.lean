import Derived.Test.YtaikpnenegifnaaGreatDoorG0
import Derived.Test.YtaikpnenegifnaaGreatDoorG8
import Derived.Test.YtaikpnenegifnaaGreatDoorHOneWL
import Derived.Test.YtaikpnenegifnaaGreatDoorXLx5
import Derived.Lib.CountLaws
import Derived.Test.YtaikpnenegifnaaGreatDoorXLx3
import Derived.Test.YtaikpnenegifnaaGreatDoorXLx4
import Derived.Test.YtaikpnenegifnaaGreatDoorXLx6
import Derived.Test.YtaikpnenegifnaaGreatDoorXLx2
import Derived.Lib.TrimByte
/- strconv.Atoi at a numeral that an int holds: its number, and no error. -/
namespace Go.Proofs.YtaikpnenegifnaaGreatDoor
open Go.RowKit Go.Proofs.YtaikpnenegifnaaGreatDoorW.PrintWords Go.Proofs.YtaikpnenegifnaaGreatDoor.XL
def strconv_Atoi.f (a0 : ByteArray) : Option (Int × Option Int) :=
  if a0.size ≤ 1000000 then (match Lib.atoiAll a0.data.toList with
    | .ok v => some (v, none)
    | _ => none) else none
theorem strconv_Atoi.calls (a0 : ByteArray) (r1 : Int) (r2 : Option Int) (w : World) (hE : EnvOk w) (h : strconv_Atoi.f a0 = some (r1, r2)) :
    Calls Tryz.prog 67 #[.string a0] w fun e w' => e = .returned (.tuple #[.int .i64 r1, errW r2]) ∧ Below w.heap.size w w' := by
  unfold strconv_Atoi.f at h
  split at h
  · rename_i hs
    split at h
    · rename_i v hv
      simp only [Option.some.injEq, Prod.mk.injEq] at h
      obtain ⟨rfl, rfl⟩ := h
      refine (Tryz.strconv_Atoi_ok a0 (by omega) _ hv w).mono ?_
      rintro e w' ⟨rfl, hw⟩
      refine ⟨rfl, ?_⟩
      rcases hw with rfl | ⟨t, rfl⟩
      · exact Below.refl _ _
      · exact Lib.bytesWorld_below _ _ _
    · cases h
  · cases h
end Go.Proofs.YtaikpnenegifnaaGreatDoor

/- lex.number, way by way: what it returns on each way through it. -/
namespace Go.Proofs.YtaikpnenegifnaaGreatDoor
set_option linter.unusedSimpArgs false
set_option linter.unusedVariables false
open Go.RowKit Go.Proofs.YtaikpnenegifnaaGreatDoorW.PrintWords Go.Proofs.YtaikpnenegifnaaGreatDoor.XL

theorem cell_alloc_lt {w : World} {o : Obj} {b j : Nat} (h : b < w.heap.size) : (w.alloc o).cell? ⟨b, j, none⟩ = w.cell? ⟨b, j, none⟩ := ((Below.refl _ _).alloc (Nat.le_refl _) _ : Below w.heap.size w (w.alloc o)).cell (p := ⟨b, j, none⟩) h
theorem size_setCell (w : World) (p : Addr) (v : Value) : (w.setCell p v).heap.size = w.heap.size := by simp
theorem Box4.drewN {w w1 : World} {a b c d : Value} (h : Box4 w w1 a b c d) (n : Nat) : Box4 w (w1.drewN n) a b c d := h.step ((pw_below_drewN (Below.refl _ _) _))
theorem Box4.alloc {w w1 : World} {a b c d : Value} (h : Box4 w w1 a b c d) (o : Obj) : Box4 w (w1.alloc o) a b c d := h.step ((Below.refl _ _).alloc (Nat.le_refl _) _)
theorem Box4.setCell {w w1 : World} {a b c d : Value} (h : Box4 w w1 a b c d) (p : Addr) (v : Value) (hp : w.heap.size < p.block) : Box4 w (w1.setCell p v) a b c d := by
  have hf := h.lt
  obtain ⟨c0, c1, c2, c3, f0, f1, f2, f3, lt, bel⟩ := h
  have hne : ∀ j, (⟨w.heap.size, j, none⟩ : Addr).block ≠ p.block := fun j e => by simp at e; omega
  have hb : Below p.block w1 (w1.setCell p v) := (Below.refl _ _).setCell (Nat.le_refl _) _
  refine ⟨(hb.cell (p := ⟨_, _, none⟩) hp).trans c0, (hb.cell (p := ⟨_, _, none⟩) hp).trans c1, (hb.cell (p := ⟨_, _, none⟩) hp).trans c2, (hb.cell (p := ⟨_, _, none⟩) hp).trans c3, (hb.frozen (p := ⟨_, _, none⟩) hp).trans f0, (hb.frozen (p := ⟨_, _, none⟩) hp).trans f1, (hb.frozen (p := ⟨_, _, none⟩) hp).trans f2, (hb.frozen (p := ⟨_, _, none⟩) hp).trans f3, by simpa using lt, bel.trans (hb.mono (by omega))⟩

set_option maxRecDepth 100000 in
set_option maxHeartbeats 1000000 in
theorem num_v_end (s : ByteArray) (k : Nat) (w : World) (hE : EnvOk w) (hs : s.size ≤ 1000000) (hlt : 0 < s.size) (c : Int) (hc : ((s[0]'hlt).toNat : Int) = c) (t : ByteArray) (n : Nat) (hV : lex_version.f k s = some (6, t, 0, 0, (n : Int), true)) (hn : n = s.size) :
    Calls Tryz.prog 54 #[.string s] w fun e w' => e = .returned (.tuple #[.agg #[.int .i64 6, .string t, .int .i64 0, .int .i64 0], .int .i64 (n : Int), .bool true]) ∧ Below w.heap.size w w' := by
  have q2 : ((0 : Int) < (s.size : Int)) = True := eq_true (by omega)
  have HV := Aside0.mk hV
  clear hV
  have e1 : ((n : Int) == (s.size : Int)) = true := by rw [beq_iff_eq]; omega
  clear hn
  go_enter Tryz.func54, Tryz.ntmps54
  go_wp2_with (first | (go_at_call 82; refine (lex_version.calls k s 6 t 0 0 (n : Int) true _ ?ce HV.out).mono ?_; (case ce => (refine hE.below ?_; repeat (first | refine pw_below_drewN ?_ _ | exact (Below.refl _ _).alloc (Nat.le_refl _) _))); rintro e w1 ⟨rfl, hb⟩; have HB1 : Aside0 (Box4 w w1 (.int .i64 0) (.string ⟨#[]⟩) (.int .i64 0) (.int .i64 0)) := ⟨by first | exact Box4.start hb | exact Box4.start1 hb⟩; clear hb; obtain ⟨m10, m11, m12, m13, g10, g11, g12, g13, lt1, _⟩ := HB1.out; have ne1 : ¬ w.heap.size = w1.heap.size := (by omega); have ne2 : ¬ w1.heap.size = w.heap.size := (by omega)))
  refine bodyPost_ret (v := (.tuple #[.agg #[.int .i64 6, .string t, .int .i64 0, .int .i64 0], .int .i64 (n : Int), .bool true])) (by simp [results, Tryz.results54, go_sem, cell_alloc_lt, lt1, m10, m11, m12, m13]) rfl ⟨rfl, ?_⟩
  repeat (first | exact HB1.out.bel | refine Below.setCell ?_ (by first | simp | omega | (simp; omega)) _ | refine pw_below_drewN ?_ _ | refine Below.alloc ?_ (by first | omega | (simp; omega)) _)

set_option maxRecDepth 100000 in
set_option maxHeartbeats 1000000 in
theorem num_v (s : ByteArray) (k : Nat) (w : World) (hE : EnvOk w) (hs : s.size ≤ 1000000) (hlt : 0 < s.size) (c : Int) (hc : ((s[0]'hlt).toNat : Int) = c) (t : ByteArray) (n : Nat) (hV : lex_version.f k s = some (6, t, 0, 0, (n : Int), true)) (hn : n < s.size) (hD : lex_digit.f ((s[n]'hn).toNat : Int) = some false) :
    Calls Tryz.prog 54 #[.string s] w fun e w' => e = .returned (.tuple #[.agg #[.int .i64 6, .string t, .int .i64 0, .int .i64 0], .int .i64 (n : Int), .bool true]) ∧ Below w.heap.size w w' := by
  have q2 : ((0 : Int) < (s.size : Int)) = True := eq_true (by omega)
  have HV := Aside0.mk hV
  have HD := Aside0.mk hD
  clear hV hD
  have e1 : ((n : Int) == (s.size : Int)) = false := by rw [beq_eq_false_iff_ne]; omega
  have q3 := eq_true (show (0 : Int) ≤ (n : Int) by omega)
  have q4 : ((n : Int) < (s.size : Int)) = True := eq_true (by omega)
  go_enter Tryz.func54, Tryz.ntmps54
  go_wp2_with (first | (go_at_call 82; refine (lex_version.calls k s 6 t 0 0 (n : Int) true _ ?ce HV.out).mono ?_; (case ce => (refine hE.below ?_; repeat (first | refine pw_below_drewN ?_ _ | exact (Below.refl _ _).alloc (Nat.le_refl _) _))); rintro e w1 ⟨rfl, hb⟩; have HB1 : Aside0 (Box4 w w1 (.int .i64 0) (.string ⟨#[]⟩) (.int .i64 0) (.int .i64 0)) := ⟨by first | exact Box4.start hb | exact Box4.start1 hb⟩; clear hb; obtain ⟨m10, m11, m12, m13, g10, g11, g12, g13, lt1, _⟩ := HB1.out; have ne1 : ¬ w.heap.size = w1.heap.size := (by omega); have ne2 : ¬ w1.heap.size = w.heap.size := (by omega)) | (go_at_call 53; refine (lex_digit.calls _ false _ HD.out).mono ?_; rintro e w2 ⟨rfl, nd, rfl⟩))
  refine bodyPost_ret (v := (.tuple #[.agg #[.int .i64 6, .string t, .int .i64 0, .int .i64 0], .int .i64 (n : Int), .bool true])) (by simp [results, Tryz.results54, go_sem, cell_alloc_lt, lt1, m10, m11, m12, m13]) rfl ⟨rfl, ?_⟩
  repeat (first | exact HB1.out.bel | refine Below.setCell ?_ (by first | simp | omega | (simp; omega)) _ | refine pw_below_drewN ?_ _ | refine Below.alloc ?_ (by first | omega | (simp; omega)) _)

set_option maxRecDepth 100000 in
set_option maxHeartbeats 1000000 in
theorem num_a_18 (s : ByteArray) (k : Nat) (w : World) (hE : EnvOk w) (hs : s.size ≤ 1000000) (hlt : 0 < s.size) (c : Int) (hc : ((s[0]'hlt).toNat : Int) = c) (t : ByteArray) (n : Nat) (hV : lex_version.f k s = some (6, t, 0, 0, (n : Int), true)) (hn : n < s.size) (hD : lex_digit.f ((s[n]'hn).toNat : Int) = some true) (h45 : c ≠ 45) (m : Nat) (hR : lex_run.f s 53 = some (m : Int)) (hm : m ≤ s.size) (h18 : 18 < m) :
    Calls Tryz.prog 54 #[.string s] w fun e w' => e = .returned (.tuple #[.agg #[.int .i64 0, .string ⟨#[]⟩, .int .i64 0, .int .i64 0], .int .i64 0, .bool false]) ∧ Below w.heap.size w w' := by
  have q2 : ((0 : Int) < (s.size : Int)) = True := eq_true (by omega)
  have HV := Aside0.mk hV
  have HD := Aside0.mk hD
  have HR := Aside0.mk hR
  clear hV hD hR
  have e1 : ((n : Int) == (s.size : Int)) = false := by rw [beq_eq_false_iff_ne]; omega
  have q3 := eq_true (show (0 : Int) ≤ (n : Int) by omega)
  have q4 : ((n : Int) < (s.size : Int)) = True := eq_true (by omega)
  have e45 : (c == 45) = false := by first | (rw [beq_eq_false_iff_ne]; exact h45) | (rw [beq_iff_eq]; exact h45)
  clear h45
  have q5 := eq_true (show (0 : Int) ≤ (m : Int) by omega)
  have q6 := eq_true (show (m : Int) ≤ (s.size : Int) by omega)
  have e0 : ((m : Int) == 0) = false := by first | exact decide_eq_true (by omega) | exact decide_eq_false (by omega) | (rw [beq_eq_false_iff_ne]; omega) | (rw [beq_iff_eq]; omega)
  have e18 : decide ((18 : Int) < (m : Int)) = true := by first | exact decide_eq_true (by omega) | exact decide_eq_false (by omega) | (rw [beq_eq_false_iff_ne]; omega) | (rw [beq_iff_eq]; omega)
  go_enter Tryz.func54, Tryz.ntmps54
  go_wp2_with (first | (go_at_call 82; refine (lex_version.calls k s 6 t 0 0 (n : Int) true _ ?ce HV.out).mono ?_; (case ce => (refine hE.below ?_; repeat (first | refine pw_below_drewN ?_ _ | exact (Below.refl _ _).alloc (Nat.le_refl _) _))); rintro e w1 ⟨rfl, hb⟩; have HB1 : Aside0 (Box4 w w1 (.int .i64 0) (.string ⟨#[]⟩) (.int .i64 0) (.int .i64 0)) := ⟨by first | exact Box4.start hb | exact Box4.start1 hb⟩; clear hb; obtain ⟨m10, m11, m12, m13, g10, g11, g12, g13, lt1, _⟩ := HB1.out; have ne1 : ¬ w.heap.size = w1.heap.size := (by omega); have ne2 : ¬ w1.heap.size = w.heap.size := (by omega)) | (go_at_call 53; refine (lex_digit.calls _ true _ HD.out).mono ?_; rintro e w2 ⟨rfl, nd, rfl⟩) | (go_at_call 78; refine (lex_run.calls _ 53 (m : Int) _ HR.out).mono ?_; rintro e w2 ⟨rfl, nd, rfl⟩))
  refine bodyPost_ret (v := (.tuple #[.agg #[.int .i64 0, .string ⟨#[]⟩, .int .i64 0, .int .i64 0], .int .i64 0, .bool false])) (by simp [results, Tryz.results54, go_sem, cell_alloc_lt, lt1, m10, m11, m12, m13]) rfl ⟨rfl, ?_⟩
  repeat (first | exact HB1.out.bel | refine Below.setCell ?_ (by first | simp | omega | (simp; omega)) _ | refine pw_below_drewN ?_ _ | refine Below.alloc ?_ (by first | omega | (simp; omega)) _)

set_option maxRecDepth 100000 in
set_option maxHeartbeats 1000000 in
theorem num_a_48 (s : ByteArray) (k : Nat) (w : World) (hE : EnvOk w) (hs : s.size ≤ 1000000) (hlt : 0 < s.size) (c : Int) (hc : ((s[0]'hlt).toNat : Int) = c) (t : ByteArray) (n : Nat) (hV : lex_version.f k s = some (6, t, 0, 0, (n : Int), true)) (hn : n < s.size) (hD : lex_digit.f ((s[n]'hn).toNat : Int) = some true) (h45 : c ≠ 45) (m : Nat) (hR : lex_run.f s 53 = some (m : Int)) (hm : m ≤ s.size) (h18 : m ≤ 18) (h1 : 1 < m) (h48 : c = 48) (hd : 0 < (s.extract 0 m).size) (hc1 : (((s.extract 0 m)[0]'hd).toNat : Int) = c) :
    Calls Tryz.prog 54 #[.string s] w fun e w' => e = .returned (.tuple #[.agg #[.int .i64 0, .string ⟨#[]⟩, .int .i64 0, .int .i64 0], .int .i64 0, .bool false]) ∧ Below w.heap.size w w' := by
  have q2 : ((0 : Int) < (s.size : Int)) = True := eq_true (by omega)
  have HV := Aside0.mk hV
  have HD := Aside0.mk hD
  have HR := Aside0.mk hR
  clear hV hD hR
  have e1 : ((n : Int) == (s.size : Int)) = false := by rw [beq_eq_false_iff_ne]; omega
  have q3 := eq_true (show (0 : Int) ≤ (n : Int) by omega)
  have q4 : ((n : Int) < (s.size : Int)) = True := eq_true (by omega)
  have e45 : (c == 45) = false := by first | (rw [beq_eq_false_iff_ne]; exact h45) | (rw [beq_iff_eq]; exact h45)
  clear h45
  have q5 := eq_true (show (0 : Int) ≤ (m : Int) by omega)
  have q6 := eq_true (show (m : Int) ≤ (s.size : Int) by omega)
  have q7 : ((0 : Int) < ((s.extract 0 m).size : Int)) = True := eq_true (by omega)
  have e0 : ((m : Int) == 0) = false := by first | exact decide_eq_true (by omega) | exact decide_eq_false (by omega) | (rw [beq_eq_false_iff_ne]; omega) | (rw [beq_iff_eq]; omega)
  have e18 : decide ((18 : Int) < (m : Int)) = false := by first | exact decide_eq_true (by omega) | exact decide_eq_false (by omega) | (rw [beq_eq_false_iff_ne]; omega) | (rw [beq_iff_eq]; omega)
  have em : decide ((1 : Int) < (m : Int)) = true := by first | exact decide_eq_true (by omega) | exact decide_eq_false (by omega) | (rw [beq_eq_false_iff_ne]; omega) | (rw [beq_iff_eq]; omega)
  have e48 : (c == 48) = true := by first | (rw [beq_eq_false_iff_ne]; exact h48) | (rw [beq_iff_eq]; exact h48)
  clear h48
  go_enter Tryz.func54, Tryz.ntmps54
  go_wp2_with (first | (go_at_call 82; refine (lex_version.calls k s 6 t 0 0 (n : Int) true _ ?ce HV.out).mono ?_; (case ce => (refine hE.below ?_; repeat (first | refine pw_below_drewN ?_ _ | exact (Below.refl _ _).alloc (Nat.le_refl _) _))); rintro e w1 ⟨rfl, hb⟩; have HB1 : Aside0 (Box4 w w1 (.int .i64 0) (.string ⟨#[]⟩) (.int .i64 0) (.int .i64 0)) := ⟨by first | exact Box4.start hb | exact Box4.start1 hb⟩; clear hb; obtain ⟨m10, m11, m12, m13, g10, g11, g12, g13, lt1, _⟩ := HB1.out; have ne1 : ¬ w.heap.size = w1.heap.size := (by omega); have ne2 : ¬ w1.heap.size = w.heap.size := (by omega)) | (go_at_call 53; refine (lex_digit.calls _ true _ HD.out).mono ?_; rintro e w2 ⟨rfl, nd, rfl⟩) | (go_at_call 78; refine (lex_run.calls _ 53 (m : Int) _ HR.out).mono ?_; rintro e w2 ⟨rfl, nd, rfl⟩))
  refine bodyPost_ret (v := (.tuple #[.agg #[.int .i64 0, .string ⟨#[]⟩, .int .i64 0, .int .i64 0], .int .i64 0, .bool false])) (by simp [results, Tryz.results54, go_sem, cell_alloc_lt, lt1, m10, m11, m12, m13]) rfl ⟨rfl, ?_⟩
  repeat (first | exact HB1.out.bel | refine Below.setCell ?_ (by first | simp | omega | (simp; omega)) _ | refine pw_below_drewN ?_ _ | refine Below.alloc ?_ (by first | omega | (simp; omega)) _)

set_option maxRecDepth 100000 in
set_option maxHeartbeats 1000000 in
theorem num_a_one (s : ByteArray) (k : Nat) (w : World) (hE : EnvOk w) (hs : s.size ≤ 1000000) (hlt : 0 < s.size) (c : Int) (hc : ((s[0]'hlt).toNat : Int) = c) (t : ByteArray) (n : Nat) (hV : lex_version.f k s = some (6, t, 0, 0, (n : Int), true)) (hn : n < s.size) (hD : lex_digit.f ((s[n]'hn).toNat : Int) = some true) (h45 : c ≠ 45) (hR : lex_run.f s 53 = some 1)  (x : Int) (hA : strconv_Atoi.f (s.extract 0 1) = some (x, none)) :
    Calls Tryz.prog 54 #[.string s] w fun e w' => e = .returned (.tuple #[.agg #[.int .i64 4, .string ⟨#[]⟩, .int .i64 x, .int .i64 0], .int .i64 1, .bool true]) ∧ Below w.heap.size w w' := by
  have q2 : ((0 : Int) < (s.size : Int)) = True := eq_true (by omega)
  have HV := Aside0.mk hV
  have HD := Aside0.mk hD
  have HR := Aside0.mk hR
  have HA := Aside0.mk hA
  clear hV hD hR hA
  have e1 : ((n : Int) == (s.size : Int)) = false := by rw [beq_eq_false_iff_ne]; omega
  have q3 := eq_true (show (0 : Int) ≤ (n : Int) by omega)
  have q4 : ((n : Int) < (s.size : Int)) = True := eq_true (by omega)
  have e45 : (c == 45) = false := by first | (rw [beq_eq_false_iff_ne]; exact h45) | (rw [beq_iff_eq]; exact h45)
  clear h45
  have q6 := eq_true (show (1 : Int) ≤ (s.size : Int) by omega)
  go_enter Tryz.func54, Tryz.ntmps54
  go_wp2_with (first | (go_at_call 82; refine (lex_version.calls k s 6 t 0 0 (n : Int) true _ ?ce HV.out).mono ?_; (case ce => (refine hE.below ?_; repeat (first | refine pw_below_drewN ?_ _ | exact (Below.refl _ _).alloc (Nat.le_refl _) _))); rintro e w1 ⟨rfl, hb⟩; have HB1 : Aside0 (Box4 w w1 (.int .i64 0) (.string ⟨#[]⟩) (.int .i64 0) (.int .i64 0)) := ⟨by first | exact Box4.start hb | exact Box4.start1 hb⟩; clear hb; obtain ⟨m10, m11, m12, m13, g10, g11, g12, g13, lt1, _⟩ := HB1.out; have ne1 : ¬ w.heap.size = w1.heap.size := (by omega); have ne2 : ¬ w1.heap.size = w.heap.size := (by omega)) | (go_at_call 53; refine (lex_digit.calls _ true _ HD.out).mono ?_; rintro e w2 ⟨rfl, nd, rfl⟩) | (go_at_call 78; refine (lex_run.calls _ 53 1 _ HR.out).mono ?_; rintro e w2 ⟨rfl, nd, rfl⟩) | (go_at_call 67; refine (strconv_Atoi.calls (s.extract 0 1) x none _ ?ce HA.out).mono ?_; (case ce => (refine hE.below ?_; repeat (first | exact HB1.out.bel | refine Below.setCell ?_ (by first | simp | omega | (simp; omega)) _ | refine pw_below_drewN ?_ _ | refine Below.alloc ?_ (by first | omega | (simp; omega)) _))); rintro e w3 ⟨rfl, hb⟩; have HB3 : Aside0 (Box4 w w3 (.int .i64 0) (.string ⟨#[]⟩) (.int .i64 0) (.int .i64 0)) := ⟨by refine Box4.step ?_ hb; repeat (first | exact HB1.out | refine Box4.drewN ?_ _ | refine Box4.alloc ?_ _ | refine Box4.setCell ?_ _ _ (by first | omega | (simp; omega)))⟩; clear hb; obtain ⟨m30, m31, m32, m33, g30, g31, g32, g33, lt3, _⟩ := HB3.out))
  refine bodyPost_ret (v := (.tuple #[.agg #[.int .i64 4, .string ⟨#[]⟩, .int .i64 x, .int .i64 0], .int .i64 1, .bool true])) (by simp [results, Tryz.results54, go_sem, cell_alloc_lt, lt1, m30, m31, m32, m33]) rfl ⟨rfl, ?_⟩
  repeat (first | refine Below.setCell ?_ (by simp) _ | refine pw_below_drewN ?_ _ | exact HB3.out.bel)

set_option maxRecDepth 100000 in
set_option maxHeartbeats 1000000 in
theorem num_a_more (s : ByteArray) (k : Nat) (w : World) (hE : EnvOk w) (hs : s.size ≤ 1000000) (hlt : 0 < s.size) (c : Int) (hc : ((s[0]'hlt).toNat : Int) = c) (t : ByteArray) (n : Nat) (hV : lex_version.f k s = some (6, t, 0, 0, (n : Int), true)) (hn : n < s.size) (hD : lex_digit.f ((s[n]'hn).toNat : Int) = some true) (h45 : c ≠ 45) (m : Nat) (hR : lex_run.f s 53 = some (m : Int)) (hm : m ≤ s.size) (h18 : m ≤ 18) (h1 : 1 < m) (h48 : c ≠ 48) (hd : 0 < (s.extract 0 m).size) (hc1 : (((s.extract 0 m)[0]'hd).toNat : Int) = c) (x : Int) (hA : strconv_Atoi.f (s.extract 0 m) = some (x, none)) :
    Calls Tryz.prog 54 #[.string s] w fun e w' => e = .returned (.tuple #[.agg #[.int .i64 4, .string ⟨#[]⟩, .int .i64 x, .int .i64 0], .int .i64 (m : Int), .bool true]) ∧ Below w.heap.size w w' := by
  have q2 : ((0 : Int) < (s.size : Int)) = True := eq_true (by omega)
  have HV := Aside0.mk hV
  have HD := Aside0.mk hD
  have HR := Aside0.mk hR
  have HA := Aside0.mk hA
  clear hV hD hR hA
  have e1 : ((n : Int) == (s.size : Int)) = false := by rw [beq_eq_false_iff_ne]; omega
  have q3 := eq_true (show (0 : Int) ≤ (n : Int) by omega)
  have q4 : ((n : Int) < (s.size : Int)) = True := eq_true (by omega)
  have e45 : (c == 45) = false := by first | (rw [beq_eq_false_iff_ne]; exact h45) | (rw [beq_iff_eq]; exact h45)
  clear h45
  have q5 := eq_true (show (0 : Int) ≤ (m : Int) by omega)
  have q6 := eq_true (show (m : Int) ≤ (s.size : Int) by omega)
  have q7 : ((0 : Int) < ((s.extract 0 m).size : Int)) = True := eq_true (by omega)
  have e0 : ((m : Int) == 0) = false := by first | exact decide_eq_true (by omega) | exact decide_eq_false (by omega) | (rw [beq_eq_false_iff_ne]; omega) | (rw [beq_iff_eq]; omega)
  have e18 : decide ((18 : Int) < (m : Int)) = false := by first | exact decide_eq_true (by omega) | exact decide_eq_false (by omega) | (rw [beq_eq_false_iff_ne]; omega) | (rw [beq_iff_eq]; omega)
  have em : decide ((1 : Int) < (m : Int)) = true := by first | exact decide_eq_true (by omega) | exact decide_eq_false (by omega) | (rw [beq_eq_false_iff_ne]; omega) | (rw [beq_iff_eq]; omega)
  have e48 : (c == 48) = false := by first | (rw [beq_eq_false_iff_ne]; exact h48) | (rw [beq_iff_eq]; exact h48)
  clear h48
  go_enter Tryz.func54, Tryz.ntmps54
  go_wp2_with (first | (go_at_call 82; refine (lex_version.calls k s 6 t 0 0 (n : Int) true _ ?ce HV.out).mono ?_; (case ce => (refine hE.below ?_; repeat (first | refine pw_below_drewN ?_ _ | exact (Below.refl _ _).alloc (Nat.le_refl _) _))); rintro e w1 ⟨rfl, hb⟩; have HB1 : Aside0 (Box4 w w1 (.int .i64 0) (.string ⟨#[]⟩) (.int .i64 0) (.int .i64 0)) := ⟨by first | exact Box4.start hb | exact Box4.start1 hb⟩; clear hb; obtain ⟨m10, m11, m12, m13, g10, g11, g12, g13, lt1, _⟩ := HB1.out; have ne1 : ¬ w.heap.size = w1.heap.size := (by omega); have ne2 : ¬ w1.heap.size = w.heap.size := (by omega)) | (go_at_call 53; refine (lex_digit.calls _ true _ HD.out).mono ?_; rintro e w2 ⟨rfl, nd, rfl⟩) | (go_at_call 78; refine (lex_run.calls _ 53 (m : Int) _ HR.out).mono ?_; rintro e w2 ⟨rfl, nd, rfl⟩) | (go_at_call 67; refine (strconv_Atoi.calls (s.extract 0 m) x none _ ?ce HA.out).mono ?_; (case ce => (refine hE.below ?_; repeat (first | exact HB1.out.bel | refine Below.setCell ?_ (by first | simp | omega | (simp; omega)) _ | refine pw_below_drewN ?_ _ | refine Below.alloc ?_ (by first | omega | (simp; omega)) _))); rintro e w3 ⟨rfl, hb⟩; have HB3 : Aside0 (Box4 w w3 (.int .i64 0) (.string ⟨#[]⟩) (.int .i64 0) (.int .i64 0)) := ⟨by refine Box4.step ?_ hb; repeat (first | exact HB1.out | refine Box4.drewN ?_ _ | refine Box4.alloc ?_ _ | refine Box4.setCell ?_ _ _ (by first | omega | (simp; omega)))⟩; clear hb; obtain ⟨m30, m31, m32, m33, g30, g31, g32, g33, lt3, _⟩ := HB3.out))
  refine bodyPost_ret (v := (.tuple #[.agg #[.int .i64 4, .string ⟨#[]⟩, .int .i64 x, .int .i64 0], .int .i64 (m : Int), .bool true])) (by simp [results, Tryz.results54, go_sem, cell_alloc_lt, lt1, m30, m31, m32, m33]) rfl ⟨rfl, ?_⟩
  repeat (first | refine Below.setCell ?_ (by simp) _ | refine pw_below_drewN ?_ _ | exact HB3.out.bel)

set_option maxRecDepth 100000 in
set_option maxHeartbeats 1000000 in
theorem num_b_18 (s : ByteArray) (k : Nat) (w : World) (hE : EnvOk w) (hs : s.size ≤ 1000000) (hlt : 0 < s.size) (c : Int) (hc : ((s[0]'hlt).toNat : Int) = c) (a b d e : Int) (t : ByteArray) (hV : lex_version.f k s = some (a, t, b, d, e, false)) (h45 : c ≠ 45) (m : Nat) (hR : lex_run.f s 53 = some (m : Int)) (hm : m ≤ s.size) (h18 : 18 < m) :
    Calls Tryz.prog 54 #[.string s] w fun e w' => e = .returned (.tuple #[.agg #[.int .i64 0, .string ⟨#[]⟩, .int .i64 0, .int .i64 0], .int .i64 0, .bool false]) ∧ Below w.heap.size w w' := by
  have q2 : ((0 : Int) < (s.size : Int)) = True := eq_true (by omega)
  have HV := Aside0.mk hV
  have HR := Aside0.mk hR
  clear hV hR
  have e45 : (c == 45) = false := by first | (rw [beq_eq_false_iff_ne]; exact h45) | (rw [beq_iff_eq]; exact h45)
  clear h45
  have q5 := eq_true (show (0 : Int) ≤ (m : Int) by omega)
  have q6 := eq_true (show (m : Int) ≤ (s.size : Int) by omega)
  have e0 : ((m : Int) == 0) = false := by first | exact decide_eq_true (by omega) | exact decide_eq_false (by omega) | (rw [beq_eq_false_iff_ne]; omega) | (rw [beq_iff_eq]; omega)
  have e18 : decide ((18 : Int) < (m : Int)) = true := by first | exact decide_eq_true (by omega) | exact decide_eq_false (by omega) | (rw [beq_eq_false_iff_ne]; omega) | (rw [beq_iff_eq]; omega)
  go_enter Tryz.func54, Tryz.ntmps54
  go_wp2_with (first | (go_at_call 82; refine (lex_version.calls k s a t b d e false _ ?ce HV.out).mono ?_; (case ce => (refine hE.below ?_; repeat (first | refine pw_below_drewN ?_ _ | exact (Below.refl _ _).alloc (Nat.le_refl _) _))); rintro e w1 ⟨rfl, hb⟩; have HB1 : Aside0 (Box4 w w1 (.int .i64 0) (.string ⟨#[]⟩) (.int .i64 0) (.int .i64 0)) := ⟨by first | exact Box4.start hb | exact Box4.start1 hb⟩; clear hb; obtain ⟨m10, m11, m12, m13, g10, g11, g12, g13, lt1, _⟩ := HB1.out; have ne1 : ¬ w.heap.size = w1.heap.size := (by omega); have ne2 : ¬ w1.heap.size = w.heap.size := (by omega)) | (go_at_call 78; refine (lex_run.calls _ 53 (m : Int) _ HR.out).mono ?_; rintro e w2 ⟨rfl, nd, rfl⟩))
  refine bodyPost_ret (v := (.tuple #[.agg #[.int .i64 0, .string ⟨#[]⟩, .int .i64 0, .int .i64 0], .int .i64 0, .bool false])) (by simp [results, Tryz.results54, go_sem, cell_alloc_lt, lt1, m10, m11, m12, m13]) rfl ⟨rfl, ?_⟩
  repeat (first | exact HB1.out.bel | refine Below.setCell ?_ (by first | simp | omega | (simp; omega)) _ | refine pw_below_drewN ?_ _ | refine Below.alloc ?_ (by first | omega | (simp; omega)) _)

set_option maxRecDepth 100000 in
set_option maxHeartbeats 1000000 in
theorem num_b_48 (s : ByteArray) (k : Nat) (w : World) (hE : EnvOk w) (hs : s.size ≤ 1000000) (hlt : 0 < s.size) (c : Int) (hc : ((s[0]'hlt).toNat : Int) = c) (a b d e : Int) (t : ByteArray) (hV : lex_version.f k s = some (a, t, b, d, e, false)) (h45 : c ≠ 45) (m : Nat) (hR : lex_run.f s 53 = some (m : Int)) (hm : m ≤ s.size) (h18 : m ≤ 18) (h1 : 1 < m) (h48 : c = 48) (hd : 0 < (s.extract 0 m).size) (hc1 : (((s.extract 0 m)[0]'hd).toNat : Int) = c) :
    Calls Tryz.prog 54 #[.string s] w fun e w' => e = .returned (.tuple #[.agg #[.int .i64 0, .string ⟨#[]⟩, .int .i64 0, .int .i64 0], .int .i64 0, .bool false]) ∧ Below w.heap.size w w' := by
  have q2 : ((0 : Int) < (s.size : Int)) = True := eq_true (by omega)
  have HV := Aside0.mk hV
  have HR := Aside0.mk hR
  clear hV hR
  have e45 : (c == 45) = false := by first | (rw [beq_eq_false_iff_ne]; exact h45) | (rw [beq_iff_eq]; exact h45)
  clear h45
  have q5 := eq_true (show (0 : Int) ≤ (m : Int) by omega)
  have q6 := eq_true (show (m : Int) ≤ (s.size : Int) by omega)
  have q7 : ((0 : Int) < ((s.extract 0 m).size : Int)) = True := eq_true (by omega)
  have e0 : ((m : Int) == 0) = false := by first | exact decide_eq_true (by omega) | exact decide_eq_false (by omega) | (rw [beq_eq_false_iff_ne]; omega) | (rw [beq_iff_eq]; omega)
  have e18 : decide ((18 : Int) < (m : Int)) = false := by first | exact decide_eq_true (by omega) | exact decide_eq_false (by omega) | (rw [beq_eq_false_iff_ne]; omega) | (rw [beq_iff_eq]; omega)
  have em : decide ((1 : Int) < (m : Int)) = true := by first | exact decide_eq_true (by omega) | exact decide_eq_false (by omega) | (rw [beq_eq_false_iff_ne]; omega) | (rw [beq_iff_eq]; omega)
  have e48 : (c == 48) = true := by first | (rw [beq_eq_false_iff_ne]; exact h48) | (rw [beq_iff_eq]; exact h48)
  clear h48
  go_enter Tryz.func54, Tryz.ntmps54
  go_wp2_with (first | (go_at_call 82; refine (lex_version.calls k s a t b d e false _ ?ce HV.out).mono ?_; (case ce => (refine hE.below ?_; repeat (first | refine pw_below_drewN ?_ _ | exact (Below.refl _ _).alloc (Nat.le_refl _) _))); rintro e w1 ⟨rfl, hb⟩; have HB1 : Aside0 (Box4 w w1 (.int .i64 0) (.string ⟨#[]⟩) (.int .i64 0) (.int .i64 0)) := ⟨by first | exact Box4.start hb | exact Box4.start1 hb⟩; clear hb; obtain ⟨m10, m11, m12, m13, g10, g11, g12, g13, lt1, _⟩ := HB1.out; have ne1 : ¬ w.heap.size = w1.heap.size := (by omega); have ne2 : ¬ w1.heap.size = w.heap.size := (by omega)) | (go_at_call 78; refine (lex_run.calls _ 53 (m : Int) _ HR.out).mono ?_; rintro e w2 ⟨rfl, nd, rfl⟩))
  refine bodyPost_ret (v := (.tuple #[.agg #[.int .i64 0, .string ⟨#[]⟩, .int .i64 0, .int .i64 0], .int .i64 0, .bool false])) (by simp [results, Tryz.results54, go_sem, cell_alloc_lt, lt1, m10, m11, m12, m13]) rfl ⟨rfl, ?_⟩
  repeat (first | exact HB1.out.bel | refine Below.setCell ?_ (by first | simp | omega | (simp; omega)) _ | refine pw_below_drewN ?_ _ | refine Below.alloc ?_ (by first | omega | (simp; omega)) _)

set_option maxRecDepth 100000 in
set_option maxHeartbeats 1000000 in
theorem num_b_one (s : ByteArray) (k : Nat) (w : World) (hE : EnvOk w) (hs : s.size ≤ 1000000) (hlt : 0 < s.size) (c : Int) (hc : ((s[0]'hlt).toNat : Int) = c) (a b d e : Int) (t : ByteArray) (hV : lex_version.f k s = some (a, t, b, d, e, false)) (h45 : c ≠ 45) (hR : lex_run.f s 53 = some 1)  (x : Int) (hA : strconv_Atoi.f (s.extract 0 1) = some (x, none)) :
    Calls Tryz.prog 54 #[.string s] w fun e w' => e = .returned (.tuple #[.agg #[.int .i64 4, .string ⟨#[]⟩, .int .i64 x, .int .i64 0], .int .i64 1, .bool true]) ∧ Below w.heap.size w w' := by
  have q2 : ((0 : Int) < (s.size : Int)) = True := eq_true (by omega)
  have HV := Aside0.mk hV
  have HR := Aside0.mk hR
  have HA := Aside0.mk hA
  clear hV hR hA
  have e45 : (c == 45) = false := by first | (rw [beq_eq_false_iff_ne]; exact h45) | (rw [beq_iff_eq]; exact h45)
  clear h45
  have q6 := eq_true (show (1 : Int) ≤ (s.size : Int) by omega)
  go_enter Tryz.func54, Tryz.ntmps54
  go_wp2_with (first | (go_at_call 82; refine (lex_version.calls k s a t b d e false _ ?ce HV.out).mono ?_; (case ce => (refine hE.below ?_; repeat (first | refine pw_below_drewN ?_ _ | exact (Below.refl _ _).alloc (Nat.le_refl _) _))); rintro e w1 ⟨rfl, hb⟩; have HB1 : Aside0 (Box4 w w1 (.int .i64 0) (.string ⟨#[]⟩) (.int .i64 0) (.int .i64 0)) := ⟨by first | exact Box4.start hb | exact Box4.start1 hb⟩; clear hb; obtain ⟨m10, m11, m12, m13, g10, g11, g12, g13, lt1, _⟩ := HB1.out; have ne1 : ¬ w.heap.size = w1.heap.size := (by omega); have ne2 : ¬ w1.heap.size = w.heap.size := (by omega)) | (go_at_call 78; refine (lex_run.calls _ 53 1 _ HR.out).mono ?_; rintro e w2 ⟨rfl, nd, rfl⟩) | (go_at_call 67; refine (strconv_Atoi.calls (s.extract 0 1) x none _ ?ce HA.out).mono ?_; (case ce => (refine hE.below ?_; repeat (first | exact HB1.out.bel | refine Below.setCell ?_ (by first | simp | omega | (simp; omega)) _ | refine pw_below_drewN ?_ _ | refine Below.alloc ?_ (by first | omega | (simp; omega)) _))); rintro e w3 ⟨rfl, hb⟩; have HB3 : Aside0 (Box4 w w3 (.int .i64 0) (.string ⟨#[]⟩) (.int .i64 0) (.int .i64 0)) := ⟨by refine Box4.step ?_ hb; repeat (first | exact HB1.out | refine Box4.drewN ?_ _ | refine Box4.alloc ?_ _ | refine Box4.setCell ?_ _ _ (by first | omega | (simp; omega)))⟩; clear hb; obtain ⟨m30, m31, m32, m33, g30, g31, g32, g33, lt3, _⟩ := HB3.out))
  refine bodyPost_ret (v := (.tuple #[.agg #[.int .i64 4, .string ⟨#[]⟩, .int .i64 x, .int .i64 0], .int .i64 1, .bool true])) (by simp [results, Tryz.results54, go_sem, cell_alloc_lt, lt1, m30, m31, m32, m33]) rfl ⟨rfl, ?_⟩
  repeat (first | refine Below.setCell ?_ (by simp) _ | refine pw_below_drewN ?_ _ | exact HB3.out.bel)

set_option maxRecDepth 100000 in
set_option maxHeartbeats 1000000 in
theorem num_b_more (s : ByteArray) (k : Nat) (w : World) (hE : EnvOk w) (hs : s.size ≤ 1000000) (hlt : 0 < s.size) (c : Int) (hc : ((s[0]'hlt).toNat : Int) = c) (a b d e : Int) (t : ByteArray) (hV : lex_version.f k s = some (a, t, b, d, e, false)) (h45 : c ≠ 45) (m : Nat) (hR : lex_run.f s 53 = some (m : Int)) (hm : m ≤ s.size) (h18 : m ≤ 18) (h1 : 1 < m) (h48 : c ≠ 48) (hd : 0 < (s.extract 0 m).size) (hc1 : (((s.extract 0 m)[0]'hd).toNat : Int) = c) (x : Int) (hA : strconv_Atoi.f (s.extract 0 m) = some (x, none)) :
    Calls Tryz.prog 54 #[.string s] w fun e w' => e = .returned (.tuple #[.agg #[.int .i64 4, .string ⟨#[]⟩, .int .i64 x, .int .i64 0], .int .i64 (m : Int), .bool true]) ∧ Below w.heap.size w w' := by
  have q2 : ((0 : Int) < (s.size : Int)) = True := eq_true (by omega)
  have HV := Aside0.mk hV
  have HR := Aside0.mk hR
  have HA := Aside0.mk hA
  clear hV hR hA
  have e45 : (c == 45) = false := by first | (rw [beq_eq_false_iff_ne]; exact h45) | (rw [beq_iff_eq]; exact h45)
  clear h45
  have q5 := eq_true (show (0 : Int) ≤ (m : Int) by omega)
  have q6 := eq_true (show (m : Int) ≤ (s.size : Int) by omega)
  have q7 : ((0 : Int) < ((s.extract 0 m).size : Int)) = True := eq_true (by omega)
  have e0 : ((m : Int) == 0) = false := by first | exact decide_eq_true (by omega) | exact decide_eq_false (by omega) | (rw [beq_eq_false_iff_ne]; omega) | (rw [beq_iff_eq]; omega)
  have e18 : decide ((18 : Int) < (m : Int)) = false := by first | exact decide_eq_true (by omega) | exact decide_eq_false (by omega) | (rw [beq_eq_false_iff_ne]; omega) | (rw [beq_iff_eq]; omega)
  have em : decide ((1 : Int) < (m : Int)) = true := by first | exact decide_eq_true (by omega) | exact decide_eq_false (by omega) | (rw [beq_eq_false_iff_ne]; omega) | (rw [beq_iff_eq]; omega)
  have e48 : (c == 48) = false := by first | (rw [beq_eq_false_iff_ne]; exact h48) | (rw [beq_iff_eq]; exact h48)
  clear h48
  go_enter Tryz.func54, Tryz.ntmps54
  go_wp2_with (first | (go_at_call 82; refine (lex_version.calls k s a t b d e false _ ?ce HV.out).mono ?_; (case ce => (refine hE.below ?_; repeat (first | refine pw_below_drewN ?_ _ | exact (Below.refl _ _).alloc (Nat.le_refl _) _))); rintro e w1 ⟨rfl, hb⟩; have HB1 : Aside0 (Box4 w w1 (.int .i64 0) (.string ⟨#[]⟩) (.int .i64 0) (.int .i64 0)) := ⟨by first | exact Box4.start hb | exact Box4.start1 hb⟩; clear hb; obtain ⟨m10, m11, m12, m13, g10, g11, g12, g13, lt1, _⟩ := HB1.out; have ne1 : ¬ w.heap.size = w1.heap.size := (by omega); have ne2 : ¬ w1.heap.size = w.heap.size := (by omega)) | (go_at_call 78; refine (lex_run.calls _ 53 (m : Int) _ HR.out).mono ?_; rintro e w2 ⟨rfl, nd, rfl⟩) | (go_at_call 67; refine (strconv_Atoi.calls (s.extract 0 m) x none _ ?ce HA.out).mono ?_; (case ce => (refine hE.below ?_; repeat (first | exact HB1.out.bel | refine Below.setCell ?_ (by first | simp | omega | (simp; omega)) _ | refine pw_below_drewN ?_ _ | refine Below.alloc ?_ (by first | omega | (simp; omega)) _))); rintro e w3 ⟨rfl, hb⟩; have HB3 : Aside0 (Box4 w w3 (.int .i64 0) (.string ⟨#[]⟩) (.int .i64 0) (.int .i64 0)) := ⟨by refine Box4.step ?_ hb; repeat (first | exact HB1.out | refine Box4.drewN ?_ _ | refine Box4.alloc ?_ _ | refine Box4.setCell ?_ _ _ (by first | omega | (simp; omega)))⟩; clear hb; obtain ⟨m30, m31, m32, m33, g30, g31, g32, g33, lt3, _⟩ := HB3.out))
  refine bodyPost_ret (v := (.tuple #[.agg #[.int .i64 4, .string ⟨#[]⟩, .int .i64 x, .int .i64 0], .int .i64 (m : Int), .bool true])) (by simp [results, Tryz.results54, go_sem, cell_alloc_lt, lt1, m30, m31, m32, m33]) rfl ⟨rfl, ?_⟩
  repeat (first | refine Below.setCell ?_ (by simp) _ | refine pw_below_drewN ?_ _ | exact HB3.out.bel)

set_option maxRecDepth 100000 in
set_option maxHeartbeats 1000000 in
theorem num_m_0 (s : ByteArray) (k : Nat) (w : World) (hE : EnvOk w) (hs : s.size ≤ 1000000) (hlt : 0 < s.size) (c : Int) (hc : ((s[0]'hlt).toNat : Int) = c) (a b d e : Int) (t : ByteArray) (hV : lex_version.f k s = some (a, t, b, d, e, false)) (h45 : c = 45) (hR : lex_run.f (s.extract 1 s.size) 53 = some 0) (hm : 1 + 0 ≤ s.size) :
    Calls Tryz.prog 54 #[.string s] w fun e w' => e = .returned (.tuple #[.agg #[.int .i64 0, .string ⟨#[]⟩, .int .i64 0, .int .i64 0], .int .i64 0, .bool false]) ∧ Below w.heap.size w w' := by
  have q2 : ((0 : Int) < (s.size : Int)) = True := eq_true (by omega)
  have HV := Aside0.mk hV
  have HR := Aside0.mk hR
  clear hV hR
  have e45 : (c == 45) = true := by first | (rw [beq_eq_false_iff_ne]; exact h45) | (rw [beq_iff_eq]; exact h45)
  clear h45
  have q5 := eq_true (show (1 : Int) ≤ (1 : Int) by omega)
  have q6 := eq_true (show (1 : Int) ≤ (s.size : Int) by omega)
  have q8 := eq_true (show (1 : Int) ≤ (s.size : Int) by omega)
  have q9 := eq_true (show (0 : Int) ≤ (1 : Int) by omega)
  go_enter Tryz.func54, Tryz.ntmps54
  go_wp2_with (first | (go_at_call 82; refine (lex_version.calls k s a t b d e false _ ?ce HV.out).mono ?_; (case ce => (refine hE.below ?_; repeat (first | refine pw_below_drewN ?_ _ | exact (Below.refl _ _).alloc (Nat.le_refl _) _))); rintro e w1 ⟨rfl, hb⟩; have HB1 : Aside0 (Box4 w w1 (.int .i64 0) (.string ⟨#[]⟩) (.int .i64 0) (.int .i64 0)) := ⟨by first | exact Box4.start hb | exact Box4.start1 hb⟩; clear hb; obtain ⟨m10, m11, m12, m13, g10, g11, g12, g13, lt1, _⟩ := HB1.out; have ne1 : ¬ w.heap.size = w1.heap.size := (by omega); have ne2 : ¬ w1.heap.size = w.heap.size := (by omega)) | (go_at_call 78; refine (lex_run.calls _ 53 0 _ HR.out).mono ?_; rintro e w2 ⟨rfl, nd, rfl⟩))
  refine bodyPost_ret (v := (.tuple #[.agg #[.int .i64 0, .string ⟨#[]⟩, .int .i64 0, .int .i64 0], .int .i64 0, .bool false])) (by simp [results, Tryz.results54, go_sem, cell_alloc_lt, lt1, m10, m11, m12, m13]) rfl ⟨rfl, ?_⟩
  repeat (first | exact HB1.out.bel | refine Below.setCell ?_ (by first | simp | omega | (simp; omega)) _ | refine pw_below_drewN ?_ _ | refine Below.alloc ?_ (by first | omega | (simp; omega)) _)

set_option maxRecDepth 100000 in
set_option maxHeartbeats 1000000 in
theorem num_m_18 (s : ByteArray) (k : Nat) (w : World) (hE : EnvOk w) (hs : s.size ≤ 1000000) (hlt : 0 < s.size) (c : Int) (hc : ((s[0]'hlt).toNat : Int) = c) (a b d e : Int) (t : ByteArray) (hV : lex_version.f k s = some (a, t, b, d, e, false)) (h45 : c = 45) (m : Nat) (hR : lex_run.f (s.extract 1 s.size) 53 = some (m : Int)) (hm : 1 + m ≤ s.size) (h18 : 18 < m) :
    Calls Tryz.prog 54 #[.string s] w fun e w' => e = .returned (.tuple #[.agg #[.int .i64 0, .string ⟨#[]⟩, .int .i64 0, .int .i64 0], .int .i64 0, .bool false]) ∧ Below w.heap.size w w' := by
  have q2 : ((0 : Int) < (s.size : Int)) = True := eq_true (by omega)
  have HV := Aside0.mk hV
  have HR := Aside0.mk hR
  clear hV hR
  have e45 : (c == 45) = true := by first | (rw [beq_eq_false_iff_ne]; exact h45) | (rw [beq_iff_eq]; exact h45)
  clear h45
  have q5 := eq_true (show (1 : Int) ≤ (1 : Int) + (m : Int) by omega)
  have q6 := eq_true (show (1 : Int) + (m : Int) ≤ (s.size : Int) by omega)
  have q8 := eq_true (show (1 : Int) ≤ (s.size : Int) by omega)
  have q9 := eq_true (show (0 : Int) ≤ (1 : Int) + (m : Int) by omega)
  have e0 : ((m : Int) == 0) = false := by first | exact decide_eq_true (by omega) | exact decide_eq_false (by omega) | (rw [beq_eq_false_iff_ne]; omega) | (rw [beq_iff_eq]; omega)
  have e18 : decide ((18 : Int) < (m : Int)) = true := by first | exact decide_eq_true (by omega) | exact decide_eq_false (by omega) | (rw [beq_eq_false_iff_ne]; omega) | (rw [beq_iff_eq]; omega)
  go_enter Tryz.func54, Tryz.ntmps54
  go_wp2_with (first | (go_at_call 82; refine (lex_version.calls k s a t b d e false _ ?ce HV.out).mono ?_; (case ce => (refine hE.below ?_; repeat (first | refine pw_below_drewN ?_ _ | exact (Below.refl _ _).alloc (Nat.le_refl _) _))); rintro e w1 ⟨rfl, hb⟩; have HB1 : Aside0 (Box4 w w1 (.int .i64 0) (.string ⟨#[]⟩) (.int .i64 0) (.int .i64 0)) := ⟨by first | exact Box4.start hb | exact Box4.start1 hb⟩; clear hb; obtain ⟨m10, m11, m12, m13, g10, g11, g12, g13, lt1, _⟩ := HB1.out; have ne1 : ¬ w.heap.size = w1.heap.size := (by omega); have ne2 : ¬ w1.heap.size = w.heap.size := (by omega)) | (go_at_call 78; refine (lex_run.calls _ 53 (m : Int) _ HR.out).mono ?_; rintro e w2 ⟨rfl, nd, rfl⟩))
  refine bodyPost_ret (v := (.tuple #[.agg #[.int .i64 0, .string ⟨#[]⟩, .int .i64 0, .int .i64 0], .int .i64 0, .bool false])) (by simp [results, Tryz.results54, go_sem, cell_alloc_lt, lt1, m10, m11, m12, m13]) rfl ⟨rfl, ?_⟩
  repeat (first | exact HB1.out.bel | refine Below.setCell ?_ (by first | simp | omega | (simp; omega)) _ | refine pw_below_drewN ?_ _ | refine Below.alloc ?_ (by first | omega | (simp; omega)) _)

set_option maxRecDepth 100000 in
set_option maxHeartbeats 1000000 in
theorem num_m_48 (s : ByteArray) (k : Nat) (w : World) (hE : EnvOk w) (hs : s.size ≤ 1000000) (hlt : 0 < s.size) (c : Int) (hc : ((s[0]'hlt).toNat : Int) = c) (a b d e : Int) (t : ByteArray) (hV : lex_version.f k s = some (a, t, b, d, e, false)) (h45 : c = 45) (m : Nat) (hR : lex_run.f (s.extract 1 s.size) 53 = some (m : Int)) (hm : 1 + m ≤ s.size) (h18 : m ≤ 18) (h1 : 1 < m) (hd : 0 < (s.extract 1 (1 + m)).size) (b0 : Int) (hc1 : (((s.extract 1 (1 + m))[0]'hd).toNat : Int) = b0) (h48 : b0 = 48) :
    Calls Tryz.prog 54 #[.string s] w fun e w' => e = .returned (.tuple #[.agg #[.int .i64 0, .string ⟨#[]⟩, .int .i64 0, .int .i64 0], .int .i64 0, .bool false]) ∧ Below w.heap.size w w' := by
  have q2 : ((0 : Int) < (s.size : Int)) = True := eq_true (by omega)
  have HV := Aside0.mk hV
  have HR := Aside0.mk hR
  clear hV hR
  have e45 : (c == 45) = true := by first | (rw [beq_eq_false_iff_ne]; exact h45) | (rw [beq_iff_eq]; exact h45)
  clear h45
  have q5 := eq_true (show (1 : Int) ≤ (1 : Int) + (m : Int) by omega)
  have q6 := eq_true (show (1 : Int) + (m : Int) ≤ (s.size : Int) by omega)
  have q8 := eq_true (show (1 : Int) ≤ (s.size : Int) by omega)
  have q9 := eq_true (show (0 : Int) ≤ (1 : Int) + (m : Int) by omega)
  have q7 : ((0 : Int) < ((s.extract 1 (1 + m)).size : Int)) = True := eq_true (by omega)
  have e0 : ((m : Int) == 0) = false := by first | exact decide_eq_true (by omega) | exact decide_eq_false (by omega) | (rw [beq_eq_false_iff_ne]; omega) | (rw [beq_iff_eq]; omega)
  have e18 : decide ((18 : Int) < (m : Int)) = false := by first | exact decide_eq_true (by omega) | exact decide_eq_false (by omega) | (rw [beq_eq_false_iff_ne]; omega) | (rw [beq_iff_eq]; omega)
  have em : decide ((1 : Int) < (m : Int)) = true := by first | exact decide_eq_true (by omega) | exact decide_eq_false (by omega) | (rw [beq_eq_false_iff_ne]; omega) | (rw [beq_iff_eq]; omega)
  have e48 : (b0 == 48) = true := by first | (rw [beq_eq_false_iff_ne]; exact h48) | (rw [beq_iff_eq]; exact h48)
  clear h48
  go_enter Tryz.func54, Tryz.ntmps54
  go_wp2_with (first | (go_at_call 82; refine (lex_version.calls k s a t b d e false _ ?ce HV.out).mono ?_; (case ce => (refine hE.below ?_; repeat (first | refine pw_below_drewN ?_ _ | exact (Below.refl _ _).alloc (Nat.le_refl _) _))); rintro e w1 ⟨rfl, hb⟩; have HB1 : Aside0 (Box4 w w1 (.int .i64 0) (.string ⟨#[]⟩) (.int .i64 0) (.int .i64 0)) := ⟨by first | exact Box4.start hb | exact Box4.start1 hb⟩; clear hb; obtain ⟨m10, m11, m12, m13, g10, g11, g12, g13, lt1, _⟩ := HB1.out; have ne1 : ¬ w.heap.size = w1.heap.size := (by omega); have ne2 : ¬ w1.heap.size = w.heap.size := (by omega)) | (go_at_call 78; refine (lex_run.calls _ 53 (m : Int) _ HR.out).mono ?_; rintro e w2 ⟨rfl, nd, rfl⟩))
  refine bodyPost_ret (v := (.tuple #[.agg #[.int .i64 0, .string ⟨#[]⟩, .int .i64 0, .int .i64 0], .int .i64 0, .bool false])) (by simp [results, Tryz.results54, go_sem, cell_alloc_lt, lt1, m10, m11, m12, m13]) rfl ⟨rfl, ?_⟩
  repeat (first | exact HB1.out.bel | refine Below.setCell ?_ (by first | simp | omega | (simp; omega)) _ | refine pw_below_drewN ?_ _ | refine Below.alloc ?_ (by first | omega | (simp; omega)) _)

set_option maxRecDepth 100000 in
set_option maxHeartbeats 1000000 in
theorem num_m_zero (s : ByteArray) (k : Nat) (w : World) (hE : EnvOk w) (hs : s.size ≤ 1000000) (hlt : 0 < s.size) (c : Int) (hc : ((s[0]'hlt).toNat : Int) = c) (a b d e : Int) (t : ByteArray) (hV : lex_version.f k s = some (a, t, b, d, e, false)) (h45 : c = 45) (hR : lex_run.f (s.extract 1 s.size) 53 = some 1) (hm : 1 + 1 ≤ s.size) (hU : ((s.extract 1 2).toList == ([48] : List UInt8)) = true) :
    Calls Tryz.prog 54 #[.string s] w fun e w' => e = .returned (.tuple #[.agg #[.int .i64 0, .string ⟨#[]⟩, .int .i64 0, .int .i64 0], .int .i64 0, .bool false]) ∧ Below w.heap.size w w' := by
  have q2 : ((0 : Int) < (s.size : Int)) = True := eq_true (by omega)
  have HV := Aside0.mk hV
  have HR := Aside0.mk hR
  clear hV hR
  have e45 : (c == 45) = true := by first | (rw [beq_eq_false_iff_ne]; exact h45) | (rw [beq_iff_eq]; exact h45)
  clear h45
  have q5 := eq_true (show (1 : Int) ≤ (2 : Int) by omega)
  have q6 := eq_true (show (2 : Int) ≤ (s.size : Int) by omega)
  have q8 := eq_true (show (1 : Int) ≤ (s.size : Int) by omega)
  have q9 := eq_true (show (0 : Int) ≤ (2 : Int) by omega)
  go_enter Tryz.func54, Tryz.ntmps54
  go_wp2_with (first | (go_at_call 82; refine (lex_version.calls k s a t b d e false _ ?ce HV.out).mono ?_; (case ce => (refine hE.below ?_; repeat (first | refine pw_below_drewN ?_ _ | exact (Below.refl _ _).alloc (Nat.le_refl _) _))); rintro e w1 ⟨rfl, hb⟩; have HB1 : Aside0 (Box4 w w1 (.int .i64 0) (.string ⟨#[]⟩) (.int .i64 0) (.int .i64 0)) := ⟨by first | exact Box4.start hb | exact Box4.start1 hb⟩; clear hb; obtain ⟨m10, m11, m12, m13, g10, g11, g12, g13, lt1, _⟩ := HB1.out; have ne1 : ¬ w.heap.size = w1.heap.size := (by omega); have ne2 : ¬ w1.heap.size = w.heap.size := (by omega)) | (go_at_call 78; refine (lex_run.calls _ 53 1 _ HR.out).mono ?_; rintro e w2 ⟨rfl, nd, rfl⟩))
  refine bodyPost_ret (v := (.tuple #[.agg #[.int .i64 0, .string ⟨#[]⟩, .int .i64 0, .int .i64 0], .int .i64 0, .bool false])) (by simp [results, Tryz.results54, go_sem, cell_alloc_lt, lt1, m10, m11, m12, m13]) rfl ⟨rfl, ?_⟩
  repeat (first | exact HB1.out.bel | refine Below.setCell ?_ (by first | simp | omega | (simp; omega)) _ | refine pw_below_drewN ?_ _ | refine Below.alloc ?_ (by first | omega | (simp; omega)) _)

set_option maxRecDepth 100000 in
set_option maxHeartbeats 1000000 in
theorem num_m_one (s : ByteArray) (k : Nat) (w : World) (hE : EnvOk w) (hs : s.size ≤ 1000000) (hlt : 0 < s.size) (c : Int) (hc : ((s[0]'hlt).toNat : Int) = c) (a b d e : Int) (t : ByteArray) (hV : lex_version.f k s = some (a, t, b, d, e, false)) (h45 : c = 45) (hR : lex_run.f (s.extract 1 s.size) 53 = some 1) (hm : 1 + 1 ≤ s.size) (hU : ((s.extract 1 2).toList == ([48] : List UInt8)) = false) (x : Int) (hA : strconv_Atoi.f (s.extract 0 2) = some (x, none)) :
    Calls Tryz.prog 54 #[.string s] w fun e w' => e = .returned (.tuple #[.agg #[.int .i64 4, .string ⟨#[]⟩, .int .i64 x, .int .i64 0], .int .i64 2, .bool true]) ∧ Below w.heap.size w w' := by
  have q2 : ((0 : Int) < (s.size : Int)) = True := eq_true (by omega)
  have HV := Aside0.mk hV
  have HR := Aside0.mk hR
  have HA := Aside0.mk hA
  clear hV hR hA
  have e45 : (c == 45) = true := by first | (rw [beq_eq_false_iff_ne]; exact h45) | (rw [beq_iff_eq]; exact h45)
  clear h45
  have q5 := eq_true (show (1 : Int) ≤ (2 : Int) by omega)
  have q6 := eq_true (show (2 : Int) ≤ (s.size : Int) by omega)
  have q8 := eq_true (show (1 : Int) ≤ (s.size : Int) by omega)
  have q9 := eq_true (show (0 : Int) ≤ (2 : Int) by omega)
  go_enter Tryz.func54, Tryz.ntmps54
  go_wp2_with (first | (go_at_call 82; refine (lex_version.calls k s a t b d e false _ ?ce HV.out).mono ?_; (case ce => (refine hE.below ?_; repeat (first | refine pw_below_drewN ?_ _ | exact (Below.refl _ _).alloc (Nat.le_refl _) _))); rintro e w1 ⟨rfl, hb⟩; have HB1 : Aside0 (Box4 w w1 (.int .i64 0) (.string ⟨#[]⟩) (.int .i64 0) (.int .i64 0)) := ⟨by first | exact Box4.start hb | exact Box4.start1 hb⟩; clear hb; obtain ⟨m10, m11, m12, m13, g10, g11, g12, g13, lt1, _⟩ := HB1.out; have ne1 : ¬ w.heap.size = w1.heap.size := (by omega); have ne2 : ¬ w1.heap.size = w.heap.size := (by omega)) | (go_at_call 78; refine (lex_run.calls _ 53 1 _ HR.out).mono ?_; rintro e w2 ⟨rfl, nd, rfl⟩) | (go_at_call 67; refine (strconv_Atoi.calls (s.extract 0 2) x none _ ?ce HA.out).mono ?_; (case ce => (refine hE.below ?_; repeat (first | exact HB1.out.bel | refine Below.setCell ?_ (by first | simp | omega | (simp; omega)) _ | refine pw_below_drewN ?_ _ | refine Below.alloc ?_ (by first | omega | (simp; omega)) _))); rintro e w3 ⟨rfl, hb⟩; have HB3 : Aside0 (Box4 w w3 (.int .i64 0) (.string ⟨#[]⟩) (.int .i64 0) (.int .i64 0)) := ⟨by refine Box4.step ?_ hb; repeat (first | exact HB1.out | refine Box4.drewN ?_ _ | refine Box4.alloc ?_ _ | refine Box4.setCell ?_ _ _ (by first | omega | (simp; omega)))⟩; clear hb; obtain ⟨m30, m31, m32, m33, g30, g31, g32, g33, lt3, _⟩ := HB3.out))
  refine bodyPost_ret (v := (.tuple #[.agg #[.int .i64 4, .string ⟨#[]⟩, .int .i64 x, .int .i64 0], .int .i64 2, .bool true])) (by simp [results, Tryz.results54, go_sem, cell_alloc_lt, lt1, m30, m31, m32, m33]) rfl ⟨rfl, ?_⟩
  repeat (first | refine Below.setCell ?_ (by simp) _ | refine pw_below_drewN ?_ _ | exact HB3.out.bel)

set_option maxRecDepth 100000 in
set_option maxHeartbeats 1000000 in
theorem num_m_more (s : ByteArray) (k : Nat) (w : World) (hE : EnvOk w) (hs : s.size ≤ 1000000) (hlt : 0 < s.size) (c : Int) (hc : ((s[0]'hlt).toNat : Int) = c) (a b d e : Int) (t : ByteArray) (hV : lex_version.f k s = some (a, t, b, d, e, false)) (h45 : c = 45) (m : Nat) (hR : lex_run.f (s.extract 1 s.size) 53 = some (m : Int)) (hm : 1 + m ≤ s.size) (h18 : m ≤ 18) (h1 : 1 < m) (hd : 0 < (s.extract 1 (1 + m)).size) (b0 : Int) (hc1 : (((s.extract 1 (1 + m))[0]'hd).toNat : Int) = b0) (h48 : b0 ≠ 48) (hU : ((s.extract 1 (1 + m)).toList == ([48] : List UInt8)) = false) (x : Int) (hA : strconv_Atoi.f (s.extract 0 (1 + m)) = some (x, none)) :
    Calls Tryz.prog 54 #[.string s] w fun e w' => e = .returned (.tuple #[.agg #[.int .i64 4, .string ⟨#[]⟩, .int .i64 x, .int .i64 0], .int .i64 ((1 : Int) + (m : Int)), .bool true]) ∧ Below w.heap.size w w' := by
  have q2 : ((0 : Int) < (s.size : Int)) = True := eq_true (by omega)
  have HV := Aside0.mk hV
  have HR := Aside0.mk hR
  have HA := Aside0.mk hA
  clear hV hR hA
  have e45 : (c == 45) = true := by first | (rw [beq_eq_false_iff_ne]; exact h45) | (rw [beq_iff_eq]; exact h45)
  clear h45
  have q5 := eq_true (show (1 : Int) ≤ (1 : Int) + (m : Int) by omega)
  have q6 := eq_true (show (1 : Int) + (m : Int) ≤ (s.size : Int) by omega)
  have q8 := eq_true (show (1 : Int) ≤ (s.size : Int) by omega)
  have q9 := eq_true (show (0 : Int) ≤ (1 : Int) + (m : Int) by omega)
  have q7 : ((0 : Int) < ((s.extract 1 (1 + m)).size : Int)) = True := eq_true (by omega)
  have e0 : ((m : Int) == 0) = false := by first | exact decide_eq_true (by omega) | exact decide_eq_false (by omega) | (rw [beq_eq_false_iff_ne]; omega) | (rw [beq_iff_eq]; omega)
  have e18 : decide ((18 : Int) < (m : Int)) = false := by first | exact decide_eq_true (by omega) | exact decide_eq_false (by omega) | (rw [beq_eq_false_iff_ne]; omega) | (rw [beq_iff_eq]; omega)
  have em : decide ((1 : Int) < (m : Int)) = true := by first | exact decide_eq_true (by omega) | exact decide_eq_false (by omega) | (rw [beq_eq_false_iff_ne]; omega) | (rw [beq_iff_eq]; omega)
  have e48 : (b0 == 48) = false := by first | (rw [beq_eq_false_iff_ne]; exact h48) | (rw [beq_iff_eq]; exact h48)
  clear h48
  go_enter Tryz.func54, Tryz.ntmps54
  go_wp2_with (first | (go_at_call 82; refine (lex_version.calls k s a t b d e false _ ?ce HV.out).mono ?_; (case ce => (refine hE.below ?_; repeat (first | refine pw_below_drewN ?_ _ | exact (Below.refl _ _).alloc (Nat.le_refl _) _))); rintro e w1 ⟨rfl, hb⟩; have HB1 : Aside0 (Box4 w w1 (.int .i64 0) (.string ⟨#[]⟩) (.int .i64 0) (.int .i64 0)) := ⟨by first | exact Box4.start hb | exact Box4.start1 hb⟩; clear hb; obtain ⟨m10, m11, m12, m13, g10, g11, g12, g13, lt1, _⟩ := HB1.out; have ne1 : ¬ w.heap.size = w1.heap.size := (by omega); have ne2 : ¬ w1.heap.size = w.heap.size := (by omega)) | (go_at_call 78; refine (lex_run.calls _ 53 (m : Int) _ HR.out).mono ?_; rintro e w2 ⟨rfl, nd, rfl⟩) | (go_at_call 67; refine (strconv_Atoi.calls (s.extract 0 (1 + m)) x none _ ?ce HA.out).mono ?_; (case ce => (refine hE.below ?_; repeat (first | exact HB1.out.bel | refine Below.setCell ?_ (by first | simp | omega | (simp; omega)) _ | refine pw_below_drewN ?_ _ | refine Below.alloc ?_ (by first | omega | (simp; omega)) _))); rintro e w3 ⟨rfl, hb⟩; have HB3 : Aside0 (Box4 w w3 (.int .i64 0) (.string ⟨#[]⟩) (.int .i64 0) (.int .i64 0)) := ⟨by refine Box4.step ?_ hb; repeat (first | exact HB1.out | refine Box4.drewN ?_ _ | refine Box4.alloc ?_ _ | refine Box4.setCell ?_ _ _ (by first | omega | (simp; omega)))⟩; clear hb; obtain ⟨m30, m31, m32, m33, g30, g31, g32, g33, lt3, _⟩ := HB3.out))
  refine bodyPost_ret (v := (.tuple #[.agg #[.int .i64 4, .string ⟨#[]⟩, .int .i64 x, .int .i64 0], .int .i64 ((1 : Int) + (m : Int)), .bool true])) (by simp [results, Tryz.results54, go_sem, cell_alloc_lt, lt1, m30, m31, m32, m33]) rfl ⟨rfl, ?_⟩
  repeat (first | refine Below.setCell ?_ (by simp) _ | refine pw_below_drewN ?_ _ | exact HB3.out.bel)

end Go.Proofs.YtaikpnenegifnaaGreatDoor

/- The reference's reading of a version: the printed answer of touchstoneref05.number and Parse is what PureDig's plain functions say; no program in sight. -/
namespace Go.Proofs.YtaikpnenegifnaaGreatDoor
set_option linter.unusedSimpArgs false
set_option linter.unusedVariables false
open Go.RowKit Go.Proofs.YtaikpnenegifnaaGreatDoorW.PrintWords Go.Proofs.YtaikpnenegifnaaGreatDoor.XL

theorem size_len (s : ByteArray) : s.data.toList.length = s.size := Array.length_toList
theorem bt_list (s : ByteArray) (n : Nat) : bt s (n : Int) = ((s.data.toList.getD n 0).toNat : Int) := by
  unfold bt
  by_cases h : n < s.size
  · rw [dif_pos (by simpa using h)]
    have h' : n < s.data.toList.length := by rw [size_len]; exact h
    rw [List.getD_eq_getElem?_getD, List.getElem?_eq_getElem h', Option.getD_some]
    rfl
  · rw [dif_neg (by simpa using h), List.getD_eq_getElem?_getD, List.getElem?_eq_none (by rw [size_len]; omega)]
    rfl
theorem w64 {n : Int} (h0 : -1000000000 ≤ n) (h1 : n ≤ 1000000000) : wrap64 n = n := by unfold wrap64; omega

theorem tw_le (l : List UInt8) : (l.takeWhile isD).length ≤ l.length := by
  have := congrArg List.length (take_takeWhile l)
  rw [List.length_append] at this
  omega
/-- The place j of a run of digits: digit, or the run's end. -/
theorem run_at : ∀ (l : List UInt8) (j : Nat), j ≤ (l.takeWhile isD).length → ((j < (l.takeWhile isD).length ↔ (j < l.length ∧ isD (l.getD j 0) = true)) ∧ (j < (l.takeWhile isD).length → (l.takeWhile isD).getD j 0 = l.getD j 0))
  | [], j, _ => by simp
  | c :: l, j, h => by
    by_cases hc : isD c = true
    · rw [List.takeWhile_cons_of_pos hc] at h ⊢
      cases j with
      | zero => simp [hc]
      | succ j =>
        have ih := run_at l j (by simpa using h)
        simp only [List.length_cons, Nat.add_lt_add_iff_right, List.getD_cons_succ]
        exact ih
    · rw [List.takeWhile_cons_of_neg hc] at h ⊢
      have : j = 0 := by simpa using h
      subst this
      simp [hc]
theorem take_succ_getD : ∀ (l : List UInt8) (j : Nat), j < l.length → l.take (j + 1) = l.take j ++ [l.getD j 0]
  | [], j, h => by simp at h
  | c :: l, 0, _ => by simp
  | c :: l, j + 1, h => by
    have := take_succ_getD l j (by simpa using h)
    simp [this]

def numR (i : Nat) (L : List UInt8) : Int × Int := match numL L with
  | some (n, _) => ((n : Int), (i : Int) + (L.takeWhile isD).length)
  | none => (0, -1)

theorem bt_drop (s : ByteArray) (i j : Nat) (L : List UInt8) (eL : s.data.toList.drop i = L) : bt s ((i + j : Nat) : Int) = ((L.getD j 0).toNat : Int) := by
  rw [bt_list, ← eL]; simp [List.getD_eq_getElem?_getD, List.getElem?_drop]
theorem bt_drop0 (s : ByteArray) (i : Nat) (L : List UInt8) (eL : s.data.toList.drop i = L) : bt s (i : Int) = ((L.getD 0 0).toNat : Int) := by
  rw [bt_list, ← eL]; simp [List.getD_eq_getElem?_getD, List.getElem?_drop]
theorem number_loop (s : ByteArray) (i : Nat) (hs : s.size ≤ 1000000) (hi : i ≤ s.size) (L D : List UInt8) (eL : s.data.toList.drop i = L) (eD : L.takeWhile isD = D) : ∀ (m j k : Nat), j + m = 7 → j ≤ D.length → m + 1 ≤ k →
    touchstoneref05_number.l0 k s i (val (D.take j)) (i + j : Nat) = some (numR i L) := by
  intro m
  induction m with
  | zero =>
    intro j k hj hjl hk
    obtain ⟨k, rfl⟩ : ∃ q, k = q + 1 := ⟨k - 1, by omega⟩
    have hx : numL L = none := by
      unfold numL; rw [eD, if_pos (.inr (.inl (by omega)))]
    rw [touchstoneref05_number.l0]
    unfold numR
    rw [show wrap64 ((i : Int) + 7) = (i : Int) + 7 from w64 (by omega) (by omega), show wrap64 ((i : Int) + 6) = (i : Int) + 6 from w64 (by omega) (by omega), hx]
    have c1 : ¬ ((i + j : Nat) : Int) < (i : Int) + 7 := by omega
    have c2 : ¬ ((i + j : Nat) : Int) = (i : Int) := by omega
    have c3 : ((i + j : Nat) : Int) > (i : Int) + 6 := by omega
    simp only [c1, c2, c3, if_true, if_false, ite_self]
  | succ m ih =>
    intro j k hj hjl hk
    obtain ⟨k, rfl⟩ : ∃ q, k = q + 1 := ⟨k - 1, by omega⟩
    obtain ⟨r1, r2⟩ := run_at L j (by rw [eD]; exact hjl)
    rw [eD] at r1 r2
    have hlen : L.length = s.size - i := by rw [← eL, List.length_drop, size_len]
    have c1 : ((i + j : Nat) : Int) < (i : Int) + 7 := by omega
    have c0 : (0 : Int) ≤ ((i + j : Nat) : Int) := by omega
    have ci : (0 : Int) ≤ (i : Int) := by omega
    have hall : ∀ b ∈ D.take j, isD b = true := fun b hb => all_takeWhile L b (by rw [eD]; exact List.mem_of_mem_take hb)
    by_cases hd : j < D.length
    · obtain ⟨hj1, hj2⟩ := r1.1 hd
      have hdig := (isD_iff _).1 hj2
      have hv := val_lt hall
      have hp : 10 ^ (D.take j).length ≤ 10 ^ 6 := Nat.pow_le_pow_right (by decide) (by rw [List.length_take]; omega)
      have hval : val (D.take (j + 1)) = 10 * val (D.take j) + ((L.getD j 0).toNat - 48) := by
        rw [take_succ_getD _ _ hd, val_append, r2 hd]
      have ih' := ih (j + 1) k (by omega) hd (by omega)
      rw [touchstoneref05_number.l0]
      rw [show wrap64 ((i : Int) + 7) = (i : Int) + 7 from w64 (by omega) (by omega), bt_drop s i j L eL]
      have c2 : ((i + j : Nat) : Int) < (s.size : Int) := by omega
      have c3 : (((L.getD j 0).toNat : Nat) : Int) ≥ 48 := by omega
      have c4 : (((L.getD j 0).toNat : Nat) : Int) ≤ 57 := by omega
      simp only [c1, c2, c0, c3, c4, if_true]
      generalize hV : (val (D.take j)) = V at *
      generalize hB : (L.getD j 0).toNat = B at *
      rw [show wrap64 (10 * (V : Int)) = 10 * (V : Int) from w64 (by omega) (by omega)]
      rw [show wrap64 (B : Int) = (B : Int) from w64 (by omega) (by omega)]
      rw [show wrap64 (10 * (V : Int) + (B : Int)) = 10 * (V : Int) + (B : Int) from w64 (by omega) (by omega)]
      rw [show wrap64 (10 * (V : Int) + (B : Int) - 48) = ((10 * V + (B - 48) : Nat) : Int) from (w64 (by omega) (by omega)).trans (by omega)]
      rw [show wrap64 (((i + j : Nat) : Int) + 1) = ((i + (j + 1) : Nat) : Int) from (w64 (by omega) (by omega)).trans (by omega)]
      rw [hval] at ih'
      exact ih'
    · have hD : j = D.length := by omega
      have tail : (if ((i + j : Nat) : Int) = (i : Int) then (some ((0 : Int), (-1 : Int))) else (if ((i + j : Nat) : Int) > (i : Int) + 6 then (some (0, (-1))) else (if ((i + j : Nat) : Int) > (i : Int) + 1 then (if (0 : Int) ≤ (i : Int) then (if (i : Int) < (s.size : Int) then (if ((L.getD 0 0).toNat : Int) = 48 then (some (0, (-1))) else (some ((val (D.take j) : Int), ((i + j : Nat) : Int)))) else (none)) else (none)) else (some ((val (D.take j) : Int), ((i + j : Nat) : Int)))))) = some (numR i L) := by
        unfold numR numL
        rw [eD]
        by_cases j0 : j = 0
        · rw [if_pos (by omega), if_pos (.inl (List.eq_nil_of_length_eq_zero (by omega)))]
        · rw [if_neg (by omega), if_neg (by omega)]
          have hne : D ≠ [] := fun e => by rw [e] at hD; simp at hD; omega
          rw [show D.take j = D by rw [hD, List.take_length]]
          have hhd : D.head? = some (L.getD 0 0) := by
            have h0 := (run_at L 0 (by omega)).2 (by rw [eD]; omega)
            rw [eD] at h0
            rw [← h0]
            cases hq : D with
            | nil => exact absurd hq hne
            | cons b r => simp
          by_cases j1 : j = 1
          · rw [if_neg (by omega), if_neg]
            · simp only []
              rw [← hD]; simp
            · rintro (h | h | ⟨h, -⟩)
              · exact hne h
              · omega
              · omega
          · rw [if_pos (by omega), if_pos ci, if_pos (by have := tw_le L; rw [eD] at this; omega)]
            by_cases h48 : ((L.getD 0 0).toNat : Int) = 48
            · rw [if_pos h48, if_pos (.inr (.inr ⟨by omega, by rw [hhd]; congr 1; exact UInt8.toNat_inj.1 (Int.ofNat.inj h48)⟩))]
            · rw [if_neg h48, if_neg]
              · simp only []
                rw [← hD]; simp
              · rintro (h | h | ⟨-, h⟩)
                · exact hne h
                · omega
                · rw [hhd] at h
                  simp only [Option.some.injEq] at h
                  rw [h] at h48
                  exact h48 rfl
      have hnd : ¬ (j < L.length ∧ isD (L.getD j 0) = true) := fun h => hd (r1.2 h)
      rw [touchstoneref05_number.l0]
      rw [show wrap64 ((i : Int) + 7) = (i : Int) + 7 from w64 (by omega) (by omega), show wrap64 ((i : Int) + 6) = (i : Int) + 6 from w64 (by omega) (by omega), show wrap64 ((i : Int) + 1) = (i : Int) + 1 from w64 (by omega) (by omega), bt_drop s i j L eL, bt_drop0 s i L eL, if_pos c1, if_pos c0, tail]
      by_cases c2 : ((i + j : Nat) : Int) < (s.size : Int)
      · rw [if_pos c2]
        by_cases c3 : (((L.getD j 0).toNat : Nat) : Int) ≥ 48
        · rw [if_pos c3]
          by_cases c4 : (((L.getD j 0).toNat : Nat) : Int) ≤ 57
          · exact absurd ⟨by omega, (isD_iff _).2 ⟨by omega, by omega⟩⟩ hnd
          · rw [if_neg c4]
        · rw [if_neg c3]
      · rw [if_neg c2]

theorem number_f (s : ByteArray) (i : Nat) (hs : s.size ≤ 1000000) (hi : i ≤ s.size) (k : Nat) (hk : 8 ≤ k) : touchstoneref05_number.f k s i = some (numR i (s.data.toList.drop i)) := by
  have := number_loop s i hs hi _ _ rfl rfl 7 0 k rfl (Nat.zero_le _) hk
  unfold touchstoneref05_number.f
  simpa [val] using this

/-- The reference's Parse. -/
def parseR (s : ByteArray) : Int × Int × Int × Int := match verL s.data.toList with
  | some (a, b, c) => ((a : Int), (b : Int), (c : Int), 0)
  | none => (0, 0, 0, 10)

theorem numR_none {i : Nat} {L : List UInt8} (h : numL L = none) : numR i L = (0, -1) := by unfold numR; rw [h]
theorem numR_some {i n : Nat} {L r : List UInt8} (h : numL L = some (n, r)) : numR i L = ((n : Int), (i : Int) + (L.takeWhile isD).length) := by unfold numR; rw [h]

theorem parse_j1 (s : ByteArray) (hs : s.size ≤ 1000000) (k a b : Nat) (e : Nat) (he : e < s.size) (hk : 9 ≤ k) :
    touchstoneref05_Parse.j1 k s a b e false = some (match numL (s.data.toList.drop (e + 1)) with | some (c, []) => ((a : Int), (b : Int), (c : Int), 0) | _ => (0, 0, 0, 10)) := by
  obtain ⟨k, rfl⟩ : ∃ q, k = q + 1 := ⟨k - 1, by omega⟩
  rw [touchstoneref05_Parse.j1]
  have w1 : wrap64 ((e : Int) + 1) = ((e + 1 : Nat) : Int) := (w64 (by omega) (by omega)).trans (by omega)
  have hL : (s.data.toList.drop (e + 1)).length = s.size - (e + 1) := by rw [List.length_drop, size_len]
  rw [w1, number_f s (e + 1) hs (by omega) k (by omega)]
  clear w1
  simp only [Bool.false_eq_true, if_false, Option.bind_some]
  have hle := tw_le (s.data.toList.drop (e + 1))
  cases hn : numL (s.data.toList.drop (e + 1)) with
  | none => rw [numR_none hn, if_neg (by omega)]
  | some x =>
    obtain ⟨c, r⟩ := x
    obtain ⟨-, -, -, hr⟩ := numL_some hn
    rw [numR_some hn]
    have hrl : r.length = (s.data.toList.drop (e + 1)).length - ((s.data.toList.drop (e + 1)).takeWhile isD).length := by rw [hr, List.length_drop]
    cases r with
    | nil =>
      simp only [List.length_nil] at hrl
      rw [if_pos (by simp only []; omega)]
    | cons y r =>
      simp only [List.length_cons] at hrl
      rw [if_neg (by simp only []; omega)]

/-- What stands behind a number: nothing, a point, or another byte. -/
theorem behind {s : ByteArray} {i n : Nat} {r : List UInt8} (hi : i ≤ s.size) (hn : numL (s.data.toList.drop i) = some (n, r)) :
    r = s.data.toList.drop (i + ((s.data.toList.drop i).takeWhile isD).length) ∧ i + ((s.data.toList.drop i).takeWhile isD).length ≤ s.size ∧ r.length = s.size - (i + ((s.data.toList.drop i).takeWhile isD).length) := by
  obtain ⟨-, -, -, hr⟩ := numL_some hn
  have hle := tw_le (s.data.toList.drop i)
  have hL : (s.data.toList.drop i).length = s.size - i := by rw [List.length_drop, size_len]
  rw [List.drop_drop] at hr
  refine ⟨hr, by omega, ?_⟩
  rw [hr, List.length_drop, size_len]
theorem dot_iff {s : ByteArray} {e : Nat} (he : e < s.size) : (bt s (e : Int) = 46) ↔ s.data.toList.drop e = 46 :: s.data.toList.drop (e + 1) := by
  rw [bt_list]
  have h' : e < s.data.toList.length := by rw [size_len]; exact he
  rw [List.drop_eq_getElem_cons h', List.getD_eq_getElem?_getD, List.getElem?_eq_getElem h', Option.getD_some]
  constructor
  · intro h
    congr 1
    exact UInt8.toNat_inj.1 (by have e1 : (46 : UInt8).toNat = 46 := rfl
                                rw [e1]; exact Int.ofNat.inj h)
  · intro h
    simp only [List.cons.injEq, and_true] at h
    rw [h]; rfl

theorem parse_j0 (s : ByteArray) (hs : s.size ≤ 1000000) (k a : Nat) (e : Nat) (he : e < s.size) (hk : 10 ≤ k) :
    touchstoneref05_Parse.j0 k s a e false = some (match numL (s.data.toList.drop (e + 1)) with
      | some (b, 46 :: r2) => (match numL r2 with | some (c, []) => ((a : Int), (b : Int), (c : Int), 0) | _ => (0, 0, 0, 10))
      | _ => (0, 0, 0, 10)) := by
  obtain ⟨k, rfl⟩ : ∃ q, k = q + 1 := ⟨k - 1, by omega⟩
  have bad : ∀ x y z : Int, touchstoneref05_Parse.j1 k s x y z true = some (0, 0, 0, 10) := by
    intro x y z
    obtain ⟨k, rfl⟩ : ∃ q, k = q + 1 := ⟨k - 1, by omega⟩
    rw [touchstoneref05_Parse.j1]
    simp
  rw [touchstoneref05_Parse.j0]
  have w1 : wrap64 ((e : Int) + 1) = ((e + 1 : Nat) : Int) := (w64 (by omega) (by omega)).trans (by omega)
  rw [w1, number_f s (e + 1) hs (by omega) k (by omega)]
  clear w1
  simp only [Bool.false_eq_true, if_false, Option.bind_some, bad]
  cases hn : numL (s.data.toList.drop (e + 1)) with
  | none => rw [numR_none hn, if_pos (by simp only []; omega)]
  | some x =>
    obtain ⟨b, r⟩ := x
    obtain ⟨hr, hle, hrl⟩ := behind (by omega) hn
    rw [numR_some hn]
    generalize hE : (e + 1 + ((s.data.toList.drop (e + 1)).takeWhile isD).length) = E at *
    have hE' : (((e + 1 : Nat) : Int) + (((s.data.toList.drop (e + 1)).takeWhile isD).length : Nat)) = (E : Int) := by omega
    simp only [hE']
    rw [if_neg (by omega)]
    by_cases hend : E < s.size
    · rw [if_neg (by omega), if_pos (by omega), if_pos (by omega)]
      by_cases hdot : bt s (E : Int) = 46
      · have h1 := (dot_iff hend).1 hdot
        rw [hr, h1, hdot]
        simp only [bne_self_eq_false]
        rw [parse_j1 s hs k a b E hend (by omega)]
      · have h1 : ∀ r2, r ≠ 46 :: r2 := by
          intro r2 h2
          apply hdot
          rw [dot_iff hend, ← hr, h2]
          congr 1
          have : (s.data.toList.drop E).drop 1 = r2 := by rw [← hr, h2]; rfl
          rw [← this, List.drop_drop]
        rw [show (bt s (E : Int) != 46) = true from by simpa using hdot, bad]
        split
        · rename_i h2
          simp only [Option.some.injEq, Prod.mk.injEq] at h2
          exact absurd h2.2 (h1 _)
        · rfl
    · rw [if_pos (by omega)]
      have : r = [] := List.eq_nil_of_length_eq_zero (by omega)
      subst this
      rfl

theorem rparse_f (s : ByteArray) (hs : s.size ≤ 1000000) (k : Nat) (hk : 11 ≤ k) : touchstoneref05_Parse.f k s = some (parseR s) := by
  have bad : ∀ x y : Int, touchstoneref05_Parse.j0 k s x y true = some (0, 0, 0, 10) := by
    intro x y
    obtain ⟨k, rfl⟩ : ∃ q, k = q + 1 := ⟨k - 1, by omega⟩
    rw [touchstoneref05_Parse.j0]
    simp
  unfold touchstoneref05_Parse.f parseR verL
  have h0 := number_f s 0 hs (by omega) k (by omega)
  simp only [List.drop_zero] at h0
  rw [show ((0 : Nat) : Int) = 0 from rfl] at h0
  rw [h0]
  simp only [Option.bind_some, bad]
  cases hn : numL s.data.toList with
  | none => rw [numR_none hn, if_pos (by simp only []; omega)]
  | some x =>
    obtain ⟨a, r⟩ := x
    obtain ⟨hr, hle, hrl⟩ := behind (i := 0) (by omega) (by simpa using hn)
    rw [numR_some hn]
    simp only [List.drop_zero, Nat.zero_add] at hr hle hrl
    generalize hE : (s.data.toList.takeWhile isD).length = E at *
    have hE' : (((0 : Nat) : Int) + ((E : Nat) : Int)) = (E : Int) := by omega
    simp only [hE']
    rw [if_neg (by omega)]
    by_cases hend : E < s.size
    · rw [if_neg (by omega), if_pos (by omega), if_pos (by omega)]
      by_cases hdot : bt s (E : Int) = 46
      · have h1 := (dot_iff hend).1 hdot
        rw [hr, h1, hdot]
        simp only [bne_self_eq_false]
        rw [parse_j0 s hs k a E hend (by omega)]
        cases numL (s.data.toList.drop (E + 1)) with
        | none => rfl
        | some y =>
          obtain ⟨b, r⟩ := y
          split
          · rename_i h2
            simp only [Option.some.injEq, Prod.mk.injEq] at h2
            obtain ⟨rfl, rfl⟩ := h2
            simp only []
            split
            · rename_i h3; rw [h3]
            · rename_i h3
              split
              · rename_i h4
                split at h4
                · rename_i c h5
                  exact absurd h5 (h3 c)
                · cases h4
              · rfl
          · rename_i h2
            split
            · rename_i h4
              split at h4
              · rename_i b' r' h5
                exact absurd h5 (h2 b' r')
              · cases h4
            · rfl
      · have h1 : ∀ r2, r ≠ 46 :: r2 := by
          intro r2 h2
          apply hdot
          rw [dot_iff hend, ← hr, h2]
          congr 1
          have : (s.data.toList.drop E).drop 1 = r2 := by rw [← hr, h2]; rfl
          rw [← this, List.drop_drop]
        rw [show (bt s (E : Int) != 46) = true from by simpa using hdot, bad]
        split
        · rename_i h4
          split at h4
          · rename_i h2
            simp only [Option.some.injEq, Prod.mk.injEq] at h2
            exact absurd h2.2 (h1 _)
          · cases h4
        · rfl
    · rw [if_pos (by omega)]
      have : r = [] := List.eq_nil_of_length_eq_zero (by omega)
      subst this
      rfl
end Go.Proofs.YtaikpnenegifnaaGreatDoor

/- semver.Parse, in plain Lean: its answer is what PureDig's plain function says (as the reference's); no program in sight. -/
namespace Go.Proofs.YtaikpnenegifnaaGreatDoor
set_option linter.unusedSimpArgs false
set_option linter.unusedVariables false
open Go.RowKit Go.Proofs.YtaikpnenegifnaaGreatDoorW.PrintWords Go.Proofs.YtaikpnenegifnaaGreatDoor.XL

theorem bs_eq (s : ByteArray) : (⟨s.data.toList.toArray⟩ : ByteArray) = s := by cases s; simp
theorem bs_of {s : ByteArray} {l : List UInt8} (h : s.data.toList = l) : s = ⟨l.toArray⟩ := by rw [← h, bs_eq]

theorem index_hit : ∀ (D r : List UInt8) (c : UInt8), c ∉ D → Lib.index (D ++ c :: r) [c] = (D.length : Int)
  | [], r, c, _ => by simp [Lib.index, List.isPrefixOf]
  | b :: D, r, c, h => by
    have h1 : c ≠ b := fun e => h (by simp [e])
    have h2 : c ∉ D := fun e => h (by simp [e])
    have ih := index_hit D r c h2
    simp only [List.cons_append, Lib.index, ih]
    have e1 : ([c] : List UInt8).isPrefixOf (b :: (D ++ c :: r)) = false := by simp [List.isPrefixOf, h1]
    rw [e1]
    have e2 : ((D.length : Int) == -1) = false := by simp
    simp [e2]
theorem index_no : ∀ (D : List UInt8) (c : UInt8), c ∉ D → Lib.index D [c] = -1
  | [], c, _ => by simp [Lib.index]
  | b :: D, c, h => by
    have h1 : c ≠ b := fun e => h (by simp [e])
    have h2 : c ∉ D := fun e => h (by simp [e])
    have ih := index_no D c h2
    have e1 : ([c] : List UInt8).isPrefixOf (b :: D) = false := by simp [List.isPrefixOf, h1]
    simp [Lib.index, ih, e1]
theorem dot_not_dec (n : Nat) : (46 : UInt8) ∉ Lib.decDigits n := fun h => by
  have := (decDigits_facts n).1 46 h
  revert this; decide
theorem index_dec (n : Nat) (r : List UInt8) : Lib.index (Lib.decDigits n ++ 46 :: r) [46] = ((Lib.decDigits n).length : Int) := index_hit _ _ _ (dot_not_dec n)
theorem count_vtext (a b c : Nat) : Lib.count (vtext a b c) [46] = 2 := by
  have e1 : Lib.count (vtext a b c) [46] = 1 + Lib.count (Lib.decDigits b ++ 46 :: Lib.decDigits c) [46] := by
    unfold vtext
    rw [Lib.count_hit (by simp) (index_dec a _)]
    congr 2
    simp [← List.drop_drop, List.drop_left']
  have e2 : Lib.count (Lib.decDigits b ++ 46 :: Lib.decDigits c) [46] = 1 + Lib.count (Lib.decDigits c) [46] := by
    rw [Lib.count_hit (by simp) (index_dec b _)]
    congr 2
    simp [← List.drop_drop, List.drop_left']
  rw [e1, e2, Lib.count_miss (index_no _ _ (dot_not_dec c))]
theorem splitK_vtext (a b c : Nat) : Lib.splitK [46] 0 2 (vtext a b c) = [Lib.decDigits a, Lib.decDigits b, Lib.decDigits c] := by
  have i1 := index_dec a (Lib.decDigits b ++ 46 :: Lib.decDigits c)
  have i2 := index_dec b (Lib.decDigits c)
  have n1 : ∀ n : Nat, ((n : Int) == -1) = false := fun n => by simp
  unfold vtext
  simp only [Lib.splitK, i1, n1, i2]
  simp [← List.drop_drop, List.drop_left', i2, n1]

theorem trimS_all {l cs : List UInt8} (h : ∀ b ∈ l, cs.contains b = true) : Lib.trimS l cs = [] := by
  have e : ∀ m : List UInt8, (∀ b ∈ m, cs.contains b = true) → m.dropWhile (cs.contains ·) = [] := by
    intro m
    induction m with
    | nil => intro _; rfl
    | cons b m ih => intro hm; simp only [List.dropWhile, hm b (by simp)]; exact ih (fun x hx => hm x (by simp [hx]))
  unfold Lib.trimS Lib.trimRightS
  rw [e l.reverse (fun b hb => h b (by simpa using hb))]
  rfl
theorem isD_contains {b : UInt8} (h : isD b = true) : ([48, 49, 50, 51, 52, 53, 54, 55, 56, 57] : List UInt8).contains b = true := by
  have h1 := (isD_iff b).1 h
  simp only [List.contains_cons, List.contains_nil, Bool.or_false, Bool.or_eq_true, beq_iff_eq, ← UInt8.toNat_inj, UInt8.reduceToNat]
  omega
theorem okPart_dec {n : Nat} (h : n ≤ 999999) : okPart ⟨(Lib.decDigits n).toArray⟩ = true := by
  unfold okPart
  have h1 := decDigits_len h
  have h2 : Lib.trimS (Lib.decDigits n) [48, 49, 50, 51, 52, 53, 54, 55, 56, 57] = [] := trimS_all fun b hb => isD_contains ((decDigits_facts n).1 b hb)
  have h3 : (⟨(Lib.decDigits n).toArray⟩ : ByteArray).size = (Lib.decDigits n).length := by simp [ByteArray.size]
  simp only [h2, h3]
  simpa using h1
theorem decFrom_val : ∀ (l : List UInt8) (acc : Nat), (∀ b ∈ l, isD b = true) → Lib.decFrom acc l = some (l.foldl valF acc)
  | [], _, _ => rfl
  | b :: l, acc, h => by
    have h1 := (isD_iff b).1 (h b (by simp))
    have ih := decFrom_val l (acc * 10 + (b.toNat - 48)) (fun x hx => h x (by simp [hx]))
    simp only [Lib.decFrom, Lib.digitVal, h1, and_self, if_true, ih, List.foldl_cons]
    congr 2
    unfold valF; omega
theorem atoi_dec (n : Nat) : Lib.atoi (Lib.decDigits n) = some (n : Int) := by
  obtain ⟨i1, i2, i3, -, -⟩ := decDigits_facts n
  have h := decFrom_val _ 0 i1
  rw [show (Lib.decDigits n).foldl valF 0 = n from i3] at h
  cases hl : Lib.decDigits n with
  | nil => exact absurd hl i2
  | cons b r =>
    rw [hl] at h i1
    have hb := (isD_iff b).1 (i1 b (by simp))
    have b1 : (b == 45) = false := by
      rw [beq_eq_false_iff_ne]; intro e; rw [e] at hb; revert hb; decide
    have b2 : (b == 43) = false := by
      rw [beq_eq_false_iff_ne]; intro e; rw [e] at hb; revert hb; decide
    simp [Lib.atoi, b1, b2, Lib.decNat, h]
theorem numPart_dec (n : Nat) : numPart ⟨(Lib.decDigits n).toArray⟩ = (n : Int) := by
  unfold numPart
  simp [atoi_dec]

theorem bs_append (l m : List UInt8) : (⟨l.toArray⟩ : ByteArray) ++ (⟨m.toArray⟩ : ByteArray) = ⟨(l ++ m).toArray⟩ := by
  apply ByteArray.ext
  simp
theorem bs_size (l : List UInt8) : (⟨l.toArray⟩ : ByteArray).size = l.length := by simp [ByteArray.size]
theorem print_f {a b c : Nat} (ha : a ≤ 999999) (hb : b ≤ 999999) (hc : c ≤ 999999) : semver_Print.f a b c = some ⟨(vtext a b c).toArray⟩ := by
  have it : ∀ n : Nat, n ≤ 999999 → strconv_Itoa.f n = some ⟨(Lib.decDigits n).toArray⟩ := fun n hn => by
    unfold strconv_Itoa.f
    rw [if_pos ⟨by omega, by omega⟩, Lib.itoa_nonneg]
  have la := decDigits_len ha
  have lb := decDigits_len hb
  have lc := decDigits_len hc
  have dot : (⟨#[46]⟩ : ByteArray) = ⟨([46] : List UInt8).toArray⟩ := rfl
  unfold semver_Print.f
  rw [right_f, decide_eq_true (by omega)]
  simp only [Option.bind_some, if_true, it a ha, it b hb, it c hc, dot, bs_append, bs_size, List.length_append, List.length_cons, List.length_nil]
  rw [if_pos (by omega), if_pos (by omega), if_pos (by omega), if_pos (by omega)]
  congr 3
  simp [vtext]
theorem print_no {a b c : Int} (h : ¬ (0 ≤ a ∧ a ≤ 999999 ∧ 0 ≤ b ∧ b ≤ 999999 ∧ 0 ≤ c ∧ c ≤ 999999)) : semver_Print.f a b c = some ⟨#[]⟩ := by
  unfold semver_Print.f
  rw [right_f, decide_eq_false h]
  rfl

theorem splitB_vtext {s : ByteArray} {a b c : Nat} (h : s.data.toList = vtext a b c) :
    Lib.splitB ⟨#[46]⟩ 0 (Lib.countB s ⟨#[46]⟩) s = [⟨(Lib.decDigits a).toArray⟩, ⟨(Lib.decDigits b).toArray⟩, ⟨(Lib.decDigits c).toArray⟩] := by
  have hc : Lib.countB s ⟨#[46]⟩ = 2 := by
    show Lib.count s.data.toList [46] = 2
    rw [h, count_vtext]
  have hd := Lib.splitB_data ⟨#[46]⟩ 0 2 s
  rw [hc]
  rw [h] at hd
  rw [show (⟨#[46]⟩ : ByteArray).data.toList = [46] from rfl, splitK_vtext] at hd
  match hm : Lib.splitB ⟨#[46]⟩ 0 2 s, hd with
  | [x, y, z], hd =>
    simp only [List.map_cons, List.map_nil, List.cons.injEq, and_true] at hd
    obtain ⟨h1, h2, h3⟩ := hd
    rw [bs_of h1, bs_of h2, bs_of h3]
  | [], hd => simp at hd
  | [x], hd => simp at hd
  | [x, y], hd => simp at hd
  | x :: y :: z :: u :: v, hd => simp at hd

theorem parse_f (s : ByteArray) (hs : s.size ≤ 1000000) : semver_Parse.f s = some (parseR s) := by
  unfold semver_Parse.f
  rw [if_pos (by omega)]
  unfold parseR
  cases hv : verL s.data.toList with
  | some x =>
    obtain ⟨a, b, c⟩ := x
    obtain ⟨hl, ha, hb, hc⟩ := verL_some hv
    rw [splitB_vtext hl]
    simp only [okPart_dec ha, okPart_dec hb, okPart_dec hc, and_self, if_true, numPart_dec, print_f ha hb hc, Option.bind_some]
    rw [if_pos (bs_of hl).symm]
  | none =>
    split
    · rename_i x y z hm
      split
      · by_cases hr : 0 ≤ numPart x ∧ numPart x ≤ 999999 ∧ 0 ≤ numPart y ∧ numPart y ≤ 999999 ∧ 0 ≤ numPart z ∧ numPart z ≤ 999999
        · have hp := print_f (a := (numPart x).toNat) (b := (numPart y).toNat) (c := (numPart z).toNat) (by omega) (by omega) (by omega)
          rw [show (((numPart x).toNat : Nat) : Int) = numPart x by omega, show (((numPart y).toNat : Nat) : Int) = numPart y by omega, show (((numPart z).toNat : Nat) : Int) = numPart z by omega] at hp
          rw [hp, Option.bind_some, if_neg]
          intro e
          rw [← e] at hv
          have := verL_text (a := (numPart x).toNat) (b := (numPart y).toNat) (c := (numPart z).toNat) (by omega) (by omega) (by omega)
          simp only [] at hv
          rw [this] at hv
          cases hv
        · rw [print_no hr, Option.bind_some, if_neg]
          intro e
          rw [← e] at hm
          have h0 : Lib.countB (⟨#[]⟩ : ByteArray) ⟨#[46]⟩ = 0 := by decide
          rw [h0, Lib.splitB_zero] at hm
          cases hm
      · rfl
    · rfl
end Go.Proofs.YtaikpnenegifnaaGreatDoor

/- The reference's small functions of tokens, in plain Lean: what LexSpec says; no program in sight. -/
namespace Go.Proofs.YtaikpnenegifnaaGreatDoor
set_option linter.unusedSimpArgs false
set_option linter.unusedVariables false
open Go.RowKit Go.Proofs.YtaikpnenegifnaaGreatDoorW.PrintWords Go.Proofs.YtaikpnenegifnaaGreatDoor.XL

abbrev B (l : List UInt8) : ByteArray := ⟨l.toArray⟩
theorem B_of (s : ByteArray) : s = B s.data.toList := (bs_eq s).symm
theorem bt_B (l : List UInt8) (n : Nat) : bt (B l) (n : Int) = ((l.getD n 0).toNat : Int) := bt_list _ _
theorem bt_B0 (l : List UInt8) : bt (B l) 0 = ((l.getD 0 0).toNat : Int) := bt_list _ 0
theorem bt_B1 (l : List UInt8) : bt (B l) 1 = ((l.getD 1 0).toNat : Int) := bt_list _ 1
theorem sz_B (l : List UInt8) : (B l).size = l.length := bs_size l
theorem tl_B (l : List UInt8) : (B l).toList = l := by rw [ByteArray.toList_eq]
theorem ex_B (l : List UInt8) (a b : Nat) : (B l).extract a b = B ((l.drop a).take (b - a)) := Lib.extract_mk l a b
theorem ex_end (l : List UInt8) (a : Nat) : (B l).extract a (B l).size = B (l.drop a) := by rw [ex_B, sz_B, List.take_of_length_le (by rw [List.length_drop]; omega)]
theorem ex_0 (l : List UInt8) (b : Nat) : (B l).extract 0 b = B (l.take b) := by rw [ex_B]; simp
theorem B_inj {a b : List UInt8} (h : B a = B b) : a = b := by have := congrArg ByteArray.toList h; rwa [tl_B, tl_B] at this
theorem B_app (a b : List UInt8) : B a ++ B b = B (a ++ b) := by
  apply ByteArray.ext
  simp
theorem ni {c : UInt8} {n : Nat} (hn : n < 256) (h : c ≠ UInt8.ofNat n) : ¬ ((c.toNat : Int) = (n : Int)) := fun e => h (by
  apply UInt8.toNat_inj.1
  rw [UInt8.toNat_ofNat_of_lt' (by show n < 256; omega)]; omega)
theorem ne95 {c : UInt8} (h : c ≠ 95) : ¬ ((c.toNat : Int) = 95) := ni (n := 95) (by decide) h
theorem ne39 {c : UInt8} (h : c ≠ 39) : ¬ ((c.toNat : Int) = 39) := ni (n := 39) (by decide) h
theorem ne34 {c : UInt8} (h : c ≠ 34) : ¬ ((c.toNat : Int) = 34) := ni (n := 34) (by decide) h
theorem ne92 {c : UInt8} (h : c ≠ 92) : ¬ ((c.toNat : Int) = 92) := ni (n := 92) (by decide) h
theorem ne45 {c : UInt8} (h : c ≠ 45) : ¬ ((c.toNat : Int) = 45) := ni (n := 45) (by decide) h
theorem ne46 {c : UInt8} (h : c ≠ 46) : ¬ ((c.toNat : Int) = 46) := ni (n := 46) (by decide) h
theorem ne62 {c : UInt8} (h : c ≠ 62) : ¬ ((c.toNat : Int) = 62) := ni (n := 62) (by decide) h
theorem ne48 {c : UInt8} (h : c ≠ 48) : ¬ ((c.toNat : Int) = 48) := ni (n := 48) (by decide) h
theorem ne10 {c : UInt8} (h : c ≠ 10) : ¬ ((c.toNat : Int) = 10) := ni (n := 10) (by decide) h
theorem ne9 {c : UInt8} (h : c ≠ 9) : ¬ ((c.toNat : Int) = 9) := ni (n := 9) (by decide) h
theorem ne32 {c : UInt8} (h : c ≠ 32) : ¬ ((c.toNat : Int) = 32) := ni (n := 32) (by decide) h
theorem ne110 {c : UInt8} (h : c ≠ 110) : ¬ ((c.toNat : Int) = 110) := ni (n := 110) (by decide) h
theorem ne116 {c : UInt8} (h : c ≠ 116) : ¬ ((c.toNat : Int) = 116) := ni (n := 116) (by decide) h
theorem drop_cons {L : List UInt8} {i : Nat} (h : i < L.length) : L.drop i = L.getD i 0 :: L.drop (i + 1) := by
  rw [List.drop_eq_getElem_cons h, List.getD_eq_getElem?_getD, List.getElem?_eq_getElem h, Option.getD_some]
theorem ex_one {L : List UInt8} {i : Nat} (h : i < L.length) : (B L).extract i (i + 1) = B [L.getD i 0] := by
  rw [ex_B, drop_cons h, show i + 1 - i = 1 by omega]; rfl
theorem w64b {n : Int} (h0 : -9000000000000000000 ≤ n) (h1 : n ≤ 9000000000000000000) : wrap64 n = n := by unfold wrap64; omega

theorem wadd {a b : Nat} (h : a + b ≤ 1000000000) : wrap64 ((a : Int) + (b : Int)) = ((a + b : Nat) : Int) := (w64 (by omega) (by omega)).trans (by omega)
theorem wadd1 {a : Nat} (h : a ≤ 1000000) : wrap64 ((a : Int) + 1) = ((a + 1 : Nat) : Int) := (w64 (by omega) (by omega)).trans (by omega)
theorem wadd2 {a : Nat} (h : a ≤ 1000000) : wrap64 ((a : Int) + 2) = ((a + 2 : Nat) : Int) := (w64 (by omega) (by omega)).trans (by omega)
theorem wsub {a b : Nat} (h : b ≤ a) (h1 : a ≤ 1000000000) : wrap64 ((a : Int) - (b : Int)) = ((a - b : Nat) : Int) := (w64 (by omega) (by omega)).trans (by omega)
theorem rsmall (c : UInt8) : touchstoneref06_small.f (c.toNat : Int) = some (isS c) := by
  unfold touchstoneref06_small.f isS
  by_cases h : (c.toNat : Int) ≥ 97
  · rw [if_pos h]; congr 1; rw [Bool.eq_iff_iff]; simp; omega
  · rw [if_neg h]; congr 1; symm; rw [Bool.eq_false_iff]; simp; omega
theorem rgreat (c : UInt8) : touchstoneref06_great.f (c.toNat : Int) = some (isG c) := by
  unfold touchstoneref06_great.f isG
  by_cases h : (c.toNat : Int) ≥ 65
  · rw [if_pos h]; congr 1; rw [Bool.eq_iff_iff]; simp; omega
  · rw [if_neg h]; congr 1; symm; rw [Bool.eq_false_iff]; simp; omega
theorem rdigit (c : UInt8) : touchstoneref06_digit.f (c.toNat : Int) = some (isD c) := by
  unfold touchstoneref06_digit.f isD
  by_cases h : (c.toNat : Int) ≥ 48
  · rw [if_pos h]; congr 1; rw [Bool.eq_iff_iff]; simp; omega
  · rw [if_neg h]; congr 1; symm; rw [Bool.eq_false_iff]; simp; omega

/-! ### runs -/
theorem named_loop (L : List UInt8) (hL : L.length ≤ 1000000) (i : Nat) (hi : i ≤ L.length) (q : Bool) (D : Nat) (hD : ((L.drop i).takeWhile (if q then isN else isV)).length = D) : ∀ (m j k : Nat), j + m = D → m + 1 ≤ k →
    touchstoneref06_named.l0 k (B L) i q j = some ((D : Nat) : Int) := by
  have hDl : D ≤ L.length - i := by rw [← hD, ← List.length_drop]; exact tw_len _ _
  intro m
  induction m with
  | zero =>
    intro j k hj hk
    obtain ⟨k, rfl⟩ : ∃ p, k = p + 1 := ⟨k - 1, by omega⟩
    have hat := tw_at (L.drop i) (if q then isN else isV) j (by omega)
    rw [hD, List.length_drop] at hat
    rw [touchstoneref06_named.l0, sz_B, show wrap64 ((i : Int) + (j : Int)) = ((i + j : Nat) : Int) from (w64 (by omega) (by omega)).trans (by omega)]
    by_cases hlt : i + j < L.length
    · have hno : (if q then isN else isV) (L.getD (i + j) 0) = false := by
        cases hb : (if q then isN else isV) (L.getD (i + j) 0) with
        | false => rfl
        | true =>
          have := hat.2 ⟨by omega, by rw [List.getD_eq_getElem?_getD, List.getElem?_drop, ← List.getD_eq_getElem?_getD]; exact hb⟩
          omega
      rw [if_pos (by omega), if_pos (by omega), bt_B, rsmall, rgreat, rdigit]
      generalize L.getD (i + j) 0 = c at hno ⊢
      have h39 : isV c = false := by cases q <;> simp [isN] at hno <;> simp [hno]
      unfold isV at h39
      simp only [Bool.or_eq_false_iff, beq_eq_false_iff_ne] at h39
      obtain ⟨⟨⟨s1, s2⟩, s3⟩, s4⟩ := h39
      simp only [Option.bind_some, s1, s2, s3, Bool.false_eq_true, if_false]
      rw [if_neg (ne95 s4)]
      have hDj : D = j := by omega
      cases q with
      | false => rw [if_neg (by decide), hDj]
      | true =>
        simp [isN] at hno
        rw [if_pos rfl, if_neg (ne39 hno.2), hDj]
    · rw [if_neg (by omega), show D = j by omega]
  | succ m ih =>
    intro j k hj hk
    obtain ⟨k, rfl⟩ : ∃ p, k = p + 1 := ⟨k - 1, by omega⟩
    have hat := tw_at (L.drop i) (if q then isN else isV) j (by omega)
    rw [hD, List.length_drop] at hat
    obtain ⟨h1, h2⟩ := hat.1 (by omega)
    rw [List.getD_eq_getElem?_getD, List.getElem?_drop, ← List.getD_eq_getElem?_getD] at h2
    rw [touchstoneref06_named.l0, sz_B, show wrap64 ((i : Int) + (j : Int)) = ((i + j : Nat) : Int) from (w64 (by omega) (by omega)).trans (by omega), show wrap64 ((j : Int) + 1) = ((j + 1 : Nat) : Int) from (w64 (by omega) (by omega)).trans (by omega)]
    rw [if_pos (by omega), if_pos (by omega), bt_B, rsmall, rgreat, rdigit, ih (j + 1) k (by omega) (by omega)]
    generalize L.getD (i + j) 0 = c at h2 ⊢
    simp only [Option.bind_some]
    by_cases s1 : isS c = true
    · rw [if_pos s1]
    rw [if_neg s1]
    by_cases s2 : isG c = true
    · rw [if_pos s2]
    rw [if_neg s2]
    by_cases s3 : isD c = true
    · rw [if_pos s3]
    rw [if_neg s3]
    by_cases s4 : c = 95
    · rw [if_pos (by subst s4; rfl)]
    rw [if_neg (ne95 s4)]
    have hv : isV c = false := by unfold isV; simp [s1, s2, s3, s4]
    cases q with
    | false => simp only [Bool.false_eq_true, if_false] at h2; rw [hv] at h2; cases h2
    | true =>
      simp [isN, hv] at h2
      rw [if_pos rfl, if_pos (by subst h2; rfl)]
theorem rnamed (L : List UInt8) (hL : L.length ≤ 1000000) (i : Nat) (hi : i ≤ L.length) (q : Bool) (k : Nat) (hk : 1000001 ≤ k) :
    touchstoneref06_named.f k (B L) i q = some ((((L.drop i).takeWhile (if q then isN else isV)).length : Nat) : Int) := by
  have hl := tw_len (if q then isN else isV) (L.drop i)
  rw [List.length_drop] at hl
  exact named_loop L hL i hi q _ rfl _ 0 k (Nat.zero_add _) (by omega)
theorem digits_loop (L : List UInt8) (hL : L.length ≤ 1000000) (i : Nat) (hi : i ≤ L.length) (D : Nat) (hD : ((L.drop i).takeWhile isD).length = D) : ∀ (m j k : Nat), j + m = D → m + 1 ≤ k →
    touchstoneref06_digits.l0 k (B L) i j = some ((D : Nat) : Int) := by
  have hDl : D ≤ L.length - i := by rw [← hD, ← List.length_drop]; exact tw_len _ _
  intro m
  induction m with
  | zero =>
    intro j k hj hk
    obtain ⟨k, rfl⟩ : ∃ p, k = p + 1 := ⟨k - 1, by omega⟩
    have hat := tw_at (L.drop i) isD j (by omega)
    rw [hD, List.length_drop] at hat
    rw [touchstoneref06_digits.l0, sz_B, show wrap64 ((i : Int) + (j : Int)) = ((i + j : Nat) : Int) from (w64 (by omega) (by omega)).trans (by omega)]
    by_cases hlt : i + j < L.length
    · have hno : isD (L.getD (i + j) 0) = false := by
        cases hb : isD (L.getD (i + j) 0) with
        | false => rfl
        | true =>
          have := hat.2 ⟨by omega, by rw [List.getD_eq_getElem?_getD, List.getElem?_drop, ← List.getD_eq_getElem?_getD]; exact hb⟩
          omega
      rw [if_pos (by omega), if_pos (by omega), bt_B, rdigit, hno]
      have hDj : D = j := by omega
      simp [hDj]
    · rw [if_neg (by omega), show D = j by omega]
  | succ m ih =>
    intro j k hj hk
    obtain ⟨k, rfl⟩ : ∃ p, k = p + 1 := ⟨k - 1, by omega⟩
    have hat := tw_at (L.drop i) isD j (by omega)
    rw [hD, List.length_drop] at hat
    obtain ⟨h1, h2⟩ := hat.1 (by omega)
    rw [List.getD_eq_getElem?_getD, List.getElem?_drop, ← List.getD_eq_getElem?_getD] at h2
    rw [touchstoneref06_digits.l0, sz_B, show wrap64 ((i : Int) + (j : Int)) = ((i + j : Nat) : Int) from (w64 (by omega) (by omega)).trans (by omega), show wrap64 ((j : Int) + 1) = ((j + 1 : Nat) : Int) from (w64 (by omega) (by omega)).trans (by omega)]
    rw [if_pos (by omega), if_pos (by omega), bt_B, rdigit, h2, ih (j + 1) k (by omega) (by omega)]
    rfl
theorem rdigits (L : List UInt8) (hL : L.length ≤ 1000000) (i : Nat) (hi : i ≤ L.length) (k : Nat) (hk : 1000001 ≤ k) :
    touchstoneref06_digits.f k (B L) i = some ((((L.drop i).takeWhile isD).length : Nat) : Int) := by
  have hl := tw_len isD (L.drop i)
  rw [List.length_drop] at hl
  exact digits_loop L hL i hi _ rfl _ 0 k (Nat.zero_add _) (by omega)

/-! ### numbers -/
theorem number_loopR (D : List UInt8) (hd : ∀ b ∈ D, isD b = true) (h18 : D.length ≤ 18) : ∀ (m j k : Nat), j + m = D.length → m + 1 ≤ k →
    touchstoneref06_number.l0 k (B D) ((val (D.take j) : Nat) : Int) j = some ((val D : Nat) : Int) := by
  intro m
  induction m with
  | zero =>
    intro j k hj hk
    obtain ⟨k, rfl⟩ : ∃ p, k = p + 1 := ⟨k - 1, by omega⟩
    rw [touchstoneref06_number.l0, sz_B, if_neg (by omega), show D.take j = D from List.take_of_length_le (by omega)]
  | succ m ih =>
    intro j k hj hk
    obtain ⟨k, rfl⟩ : ∃ p, k = p + 1 := ⟨k - 1, by omega⟩
    have hlt : j < D.length := by omega
    have hv := val_lt (l := D.take j) (fun b hb => hd b (List.mem_of_mem_take hb))
    have hp : 10 ^ (D.take j).length ≤ 10 ^ 17 := Nat.pow_le_pow_right (by decide) (by rw [List.length_take]; omega)
    have hb := (isD_iff _).1 (hd (D.getD j 0) (by rw [List.getD_eq_getElem?_getD, List.getElem?_eq_getElem hlt, Option.getD_some]; exact List.getElem_mem hlt))
    have ih' := ih (j + 1) k (by omega) (by omega)
    rw [take_succ_getD _ _ hlt, val_append] at ih'
    rw [touchstoneref06_number.l0, sz_B, if_pos (by omega), if_pos (by omega), bt_B, show wrap64 ((j : Int) + 1) = ((j + 1 : Nat) : Int) from (w64 (by omega) (by omega)).trans (by omega)]
    generalize hV : val (D.take j) = V at *
    generalize hB : (D.getD j 0).toNat = b at *
    rw [show wrap64 (10 * (V : Int)) = 10 * (V : Int) from w64b (by omega) (by omega), show wrap64 (b : Int) = (b : Int) from w64 (by omega) (by omega), show wrap64 (10 * (V : Int) + (b : Int)) = 10 * (V : Int) + (b : Int) from w64b (by omega) (by omega),
      show wrap64 (10 * (V : Int) + (b : Int) - 48) = ((10 * V + (b - 48) : Nat) : Int) from (w64b (by omega) (by omega)).trans (by omega)]
    exact ih'
theorem rnumber (D : List UInt8) (hd : ∀ b ∈ D, isD b = true) (h18 : D.length ≤ 18) (k : Nat) (hk : 20 ≤ k) : touchstoneref06_number.f k (B D) = some ((val D : Nat) : Int) := by
  have h := number_loopR D hd h18 D.length 0 k (Nat.zero_add _) (by omega)
  rw [List.take_zero] at h
  exact h

/-! ### is a text one of some -/
theorem in_loop (w : List UInt8) (ls : List (List UInt8)) (hl : ls.length ≤ 1000) : ∀ (m j k : Nat), j + m = ls.length → m + 1 ≤ k →
    touchstoneref06_In.l0 k (B w) (ls.map B) j = some (decide (w ∈ ls.drop j)) := by
  intro m
  induction m with
  | zero =>
    intro j k hj hk
    obtain ⟨k, rfl⟩ : ∃ p, k = p + 1 := ⟨k - 1, by omega⟩
    rw [touchstoneref06_In.l0, List.length_map, if_neg (by omega), List.drop_of_length_le (by omega)]
    rfl
  | succ m ih =>
    intro j k hj hk
    obtain ⟨k, rfl⟩ : ∃ p, k = p + 1 := ⟨k - 1, by omega⟩
    have hlt : j < ls.length := by omega
    have hrd : rdOf ByteArray.empty (ls.map B) (j : Int) = B ls[j] := by
      unfold rdOf
      simp [hlt]
    rw [touchstoneref06_In.l0, List.length_map, if_pos (by omega), if_pos (by omega), hrd, tl_B, tl_B, List.drop_eq_getElem_cons hlt, show wrap64 ((j : Int) + 1) = ((j + 1 : Nat) : Int) from (w64 (by omega) (by omega)).trans (by omega), ih (j + 1) k (by omega) (by omega)]
    by_cases h : ls[j] = w
    · rw [if_pos h]; simp [h]
    · rw [if_neg h]
      congr 1
      rw [decide_eq_decide, List.mem_cons]
      constructor
      · exact .inr
      · rintro (e | e)
        · exact absurd e.symm h
        · exact e
theorem rIn (w : List UInt8) (ls : List (List UInt8)) (hl : ls.length ≤ 1000) (k : Nat) (hk : 1001 ≤ k) : touchstoneref06_In.f k (B w) (ls.map B) = some (decide (w ∈ ls)) := by
  have h := in_loop w ls hl ls.length 0 k (Nat.zero_add _) (by omega)
  exact h

/-! ### versions -/
def badN (A : List UInt8) : Prop := A = [] ∨ 6 < A.length ∨ (1 < A.length ∧ A.head? = some 48)
instance (A : List UInt8) : Decidable (badN A) := by unfold badN; infer_instance
theorem numL_run {A x : List UInt8} (hA : ∀ b ∈ A, isD b = true) (hx : NoD x) : numL (A ++ x) = if badN A then none else some (val A, x) := by
  unfold numL
  rw [tw_stop hA hx, List.drop_left' rfl]
  rfl
theorem versionL_num {R : List UInt8} : versionL R = match numL R with
  | some (_, 46 :: r) => (match numL r with
    | some (_, 46 :: r2) => (match numL r2 with
      | some (_, r3) => some (R.length - r3.length)
      | none => none)
    | _ => none)
  | _ => none := rfl
/-- What stands behind a run of digits. -/
theorem run_split (R : List UInt8) : ∃ A x, R = A ++ x ∧ R.takeWhile isD = A ∧ (∀ b ∈ A, isD b = true) ∧ NoD x :=
  ⟨_, _, (take_takeWhile R).symm, rfl, all_takeWhile R, noD_drop R⟩
theorem versionL_no1 {A x : List UInt8} (hA : ∀ b ∈ A, isD b = true) (hx : NoD x) (h : ∀ q, x ≠ 46 :: q) : versionL (A ++ x) = none := by
  rw [versionL_num, numL_run hA hx]
  split
  · rename_i v r e
    split at e
    · cases e
    · simp only [Option.some.injEq, Prod.mk.injEq] at e
      exact absurd e.2 (h r)
  · rfl
theorem versionL_no2 {A C x : List UInt8} (hA : ∀ b ∈ A, isD b = true) (hC : ∀ b ∈ C, isD b = true) (hx : NoD x) (h : C = [] ∨ ∀ q, x ≠ 46 :: q) : versionL (A ++ 46 :: (C ++ x)) = none := by
  rw [versionL_num, numL_run hA (noD_dot _)]
  split
  · rename_i v r e
    split at e
    · cases e
    · simp only [Option.some.injEq, Prod.mk.injEq, List.cons.injEq, true_and] at e
      rw [← e.2, numL_run hC hx]
      split
      · rename_i v2 r2 e2
        split at e2
        · cases e2
        · rename_i hb
          simp only [Option.some.injEq, Prod.mk.injEq] at e2
          rcases h with h | h
          · exact absurd (.inl h) hb
          · exact absurd e2.2 (h r2)
      · rfl
  · rfl
theorem versionL_three {A C E T : List UInt8} (hA : ∀ b ∈ A, isD b = true) (hC : ∀ b ∈ C, isD b = true) (hE : ∀ b ∈ E, isD b = true) (hT : NoD T) :
    versionL (A ++ 46 :: (C ++ 46 :: (E ++ T))) = if badN A ∨ badN C ∨ badN E then none else some (A.length + C.length + 2 + E.length) := by
  rw [versionL_num, numL_run hA (noD_dot _)]
  by_cases bA : badN A
  · rw [if_pos bA, if_pos (.inl bA)]
  rw [if_neg bA]
  simp only []
  rw [numL_run hC (noD_dot _)]
  by_cases bC : badN C
  · rw [if_pos bC, if_pos (.inr (.inl bC))]
  rw [if_neg bC]
  simp only []
  rw [numL_run hE hT]
  by_cases bE : badN E
  · rw [if_pos bE, if_pos (.inr (.inr bE))]
  rw [if_neg bE, if_neg (by rintro (h | h | h) <;> contradiction)]
  simp
  omega
theorem verL_three {A C E : List UInt8} (hA : ∀ b ∈ A, isD b = true) (hC : ∀ b ∈ C, isD b = true) (hE : ∀ b ∈ E, isD b = true) :
    verL (A ++ 46 :: (C ++ 46 :: E)) = if badN A ∨ badN C ∨ badN E then none else some (val A, val C, val E) := by
  have hE' := numL_run hE noD_nil
  rw [List.append_nil] at hE'
  unfold verL
  rw [numL_run hA (noD_dot _)]
  by_cases bA : badN A
  · rw [if_pos bA, if_pos (.inl bA)]
  rw [if_neg bA]
  simp only []
  rw [numL_run hC (noD_dot _)]
  by_cases bC : badN C
  · rw [if_pos bC, if_pos (.inr (.inl bC))]
  rw [if_neg bC]
  simp only []
  rw [hE']
  by_cases bE : badN E
  · rw [if_pos bE, if_pos (.inr (.inr bE))]
  rw [if_neg bE, if_neg (by rintro (h | h | h) <;> contradiction)]

theorem rparse_B (l : List UInt8) (hl : l.length ≤ 1000000) (k : Nat) (hk : 11 ≤ k) : ∃ a b c, touchstoneref05_Parse.f k (B l) = some (a, b, c, if (verL l).isSome then 0 else 10) := by
  rw [rparse_f (B l) (by rw [sz_B]; exact hl) k hk]
  unfold parseR
  rw [show (B l).data.toList = l from rfl]
  cases verL l with
  | none => exact ⟨_, _, _, rfl⟩
  | some x => obtain ⟨a, b, c⟩ := x; exact ⟨_, _, _, rfl⟩
theorem rversion (L : List UInt8) (hL : L.length ≤ 1000000) (i : Nat) (hi : i ≤ L.length) (k : Nat) (hk : 1000010 ≤ k) :
    touchstoneref06_version.f k (B L) i = some (((versionL (L.drop i)).getD 0 : Nat) : Int) := by
  obtain ⟨k, rfl⟩ : ∃ p, k = p + 2 := ⟨k - 2, by omega⟩
  obtain ⟨A, x, hR, hA1, hA, hx⟩ := run_split (L.drop i)
  have hRl : (L.drop i).length = L.length - i := List.length_drop
  have hlen : A.length + x.length = L.length - i := by rw [← hRl, hR, List.length_append]
  have hdx : L.drop (i + A.length) = x := by rw [← List.drop_drop, hR, List.drop_left' rfl]
  have bad : ∀ y, touchstoneref06_version.j0 (k + 2) (B L) i y true = some 0 := by intro y; rw [touchstoneref06_version.j0]; rfl
  have bad1 : ∀ y z, touchstoneref06_version.j1 (k + 1) (B L) i y z true = some 0 := by intro y z; rw [touchstoneref06_version.j1]; rfl
  unfold touchstoneref06_version.f
  rw [rdigits L hL i hi _ (by omega), hA1, Option.bind_some, wadd (by omega), sz_B, hR]
  cases x with
  | nil =>
    rw [if_pos (by simp at hlen; omega), bad, versionL_no1 hA hx (fun q h => by cases h)]
    rfl
  | cons b x =>
    simp only [List.length_cons] at hlen
    have hb : L.getD (i + A.length) 0 = b := by
      have := drop_cons (L := L) (i := i + A.length) (by omega)
      rw [hdx] at this
      simp only [List.cons.injEq] at this
      exact this.1.symm
    have hdx2 : L.drop (i + A.length + 1) = x := by rw [← List.drop_drop, hdx]; rfl
    rw [if_neg (by omega), if_pos (by omega), if_pos (by omega), bt_B, hb]
    by_cases h46 : b = 46
    · subst h46
      rw [show (((46 : UInt8).toNat : Int) != 46) = false from rfl, touchstoneref06_version.j0, if_neg (by decide), wadd (by omega), wadd1 (by omega)]
      obtain ⟨C, y, hR2, hC1, hC, hy⟩ := run_split x
      have hlen2 : C.length + y.length = x.length := by rw [hR2, List.length_append]
      have hdy : L.drop (i + A.length + 1 + C.length) = y := by rw [← List.drop_drop, hdx2, hR2, List.drop_left' rfl]
      rw [rdigits L hL _ (by omega) _ (by omega), hdx2, hC1, Option.bind_some, wadd (by omega), sz_B, hR2]
      by_cases hC0 : C = []
      · rw [if_pos (by rw [hC0]; rfl), bad1, versionL_no2 hA hC hy (.inl hC0)]
        rfl
      rw [if_neg (by have := List.length_pos_iff.2 hC0; omega)]
      cases y with
      | nil =>
        rw [if_pos (by simp at hlen2; omega), bad1, versionL_no2 hA hC hy (.inr fun q h => by cases h)]
        rfl
      | cons b2 y =>
        simp only [List.length_cons] at hlen2
        have hb2 : L.getD (i + A.length + 1 + C.length) 0 = b2 := by
          have := drop_cons (L := L) (i := i + A.length + 1 + C.length) (by omega)
          rw [hdy] at this
          simp only [List.cons.injEq] at this
          exact this.1.symm
        have hdy2 : L.drop (i + A.length + 1 + C.length + 1) = y := by rw [← List.drop_drop, hdy]; rfl
        rw [if_neg (by omega), if_pos (by omega), if_pos (by omega), bt_B, hb2]
        by_cases h46 : b2 = 46
        · subst h46
          obtain ⟨E, T, hR3, hE1, hE, hT⟩ := run_split y
          have hlen3 : E.length + T.length = y.length := by rw [hR3, List.length_append]
          rw [show (((46 : UInt8).toNat : Int) != 46) = false from rfl, touchstoneref06_version.j1, if_neg (by decide), wadd (a := i) (b := A.length) (by omega), wadd (a := i + A.length) (b := C.length) (by omega), wadd2 (a := i + A.length + C.length) (by omega), rdigits L hL _ (by omega) _ (by omega)]
          rw [show i + A.length + C.length + 2 = i + A.length + 1 + C.length + 1 by omega, hdy2, hE1, Option.bind_some]
          rw [show i + A.length + 1 + C.length + 1 = i + A.length + C.length + 2 by omega, wadd (a := i + A.length + C.length + 2) (b := E.length) (by omega), show i + A.length + C.length + 2 + E.length = i + (A.length + C.length + 2 + E.length) by omega, if_pos (by omega), if_pos (by omega), sz_B, if_pos (by omega), ex_B]
          rw [Int.toNat_natCast, Int.toNat_natCast, show i + (A.length + C.length + 2 + E.length) - i = A.length + C.length + 2 + E.length by omega, hR, hR2, hR3]
          have htk : (A ++ 46 :: (C ++ 46 :: (E ++ T))).take (A.length + C.length + 2 + E.length) = A ++ 46 :: (C ++ 46 :: E) := by
            have e : A ++ 46 :: (C ++ 46 :: (E ++ T)) = (A ++ 46 :: (C ++ 46 :: E)) ++ T := by simp
            rw [e]
            exact List.take_left' (by simp; omega)
          rw [htk]
          obtain ⟨p1, p2, p3, hp⟩ := rparse_B (A ++ 46 :: (C ++ 46 :: E)) (by simp; omega) k (by omega)
          rw [hp, Option.bind_some, wadd (a := A.length) (b := C.length) (by omega), wadd2 (a := A.length + C.length) (by omega), wadd (a := A.length + C.length + 2) (b := E.length) (by omega), versionL_three hA hC hE hT, verL_three hA hC hE]
          by_cases hbad : badN A ∨ badN C ∨ badN E
          · rw [if_pos hbad, if_pos hbad]; rfl
          · rw [if_neg hbad, if_neg hbad]; rfl
        · rw [show (((b2.toNat : Nat) : Int) != 46) = true from by rw [bne_iff_ne]; exact ne46 h46, bad1, versionL_no2 hA hC hy (.inr fun q h => h46 (by simp at h; exact h.1))]
          rfl
    · rw [show (((b.toNat : Nat) : Int) != 46) = true from by rw [bne_iff_ne]; exact ne46 h46, bad, versionL_no1 hA hx (fun q h => h46 (by simp at h; exact h.1))]
      rfl

/-! ### texts -/
theorem rtext_loop (L : List UInt8) (hL : L.length ≤ 1000000) (i0 : Nat) (hi0 : i0 ≤ L.length) : ∀ (m i : Nat) (b : List UInt8) (k : Nat), i + m = L.length → i0 ≤ i → b.length ≤ i → 3 * m + 3 ≤ k →
    touchstoneref06_text.l0 k (B L) i0 (B b) i = some (match textL (L.drop i) with
      | some (t, n) => if b.length + t.length ≤ 1000 then (5, B (b ++ t), 0, 0, ((i + n - i0 : Nat) : Int)) else (0, ⟨#[]⟩, 0, 0, 0)
      | none => (0, ⟨#[]⟩, 0, 0, 0)) := by
  intro m
  induction m using Nat.strongRecOn with
  | _ m ih =>
    intro i b k hi hii hb hk
    obtain ⟨k, rfl⟩ : ∃ q, k = q + 3 := ⟨k - 3, by omega⟩
    rw [touchstoneref06_text.l0, sz_B, sz_B]
    by_cases hlt : i < L.length
    · rw [if_pos (by omega), if_pos (by omega), bt_B, drop_cons hlt, textL_cons]
      generalize hc : L.getD i 0 = c
      have c255 := c.toNat_lt
      by_cases h34 : c = 34
      · subst h34
        rw [if_pos (by decide), if_pos rfl, wadd1 (by omega), wsub (by omega) (by omega)]
        by_cases h1000 : b.length ≤ 1000
        · rw [if_neg (by omega)]
          simp [h1000]
        · rw [if_pos (by omega)]
          simp [h1000]
      · rw [if_neg (ne34 h34), if_neg h34]
        by_cases hg : c.toNat < 32 ∨ 126 < c.toNat
        · rw [if_pos hg]
          have bad : touchstoneref06_text.j1 (k + 2) (B L) i0 (B b) i true = some (0, ⟨#[]⟩, 0, 0, 0) := by rw [touchstoneref06_text.j1]; rfl
          by_cases h32 : (c.toNat : Int) < 32
          · rw [if_pos h32, bad]
          · rw [if_neg h32, decide_eq_true (by omega), bad]
        · rw [if_neg hg, if_neg (by omega), decide_eq_false (by omega), touchstoneref06_text.j1, if_neg (by decide), sz_B, if_pos (by omega), if_pos (by omega), bt_B, hc]
          by_cases h92 : c = 92
          · rw [if_pos (by subst h92; decide), if_pos h92, wadd1 (by omega)]
            by_cases hend : i + 1 = L.length
            · rw [if_pos (by omega), List.drop_of_length_le (by omega)]
            · rw [if_neg (by omega), if_pos (by omega), if_pos (by omega), bt_B, drop_cons (by omega)]
              generalize hd : L.getD (i + 1) 0 = d
              have hcont : ∀ x : UInt8, touchstoneref06_text.l0 k (B L) i0 (B (b ++ [x])) ((i + 2 : Nat) : Int) = some (match (match (some x : Option UInt8) with
                  | some x => (textL (L.drop (i + 1 + 1))).map fun p : List UInt8 × Nat => (x :: p.1, p.2 + 2)
                  | none => none) with
                | some (t, n) => if b.length + t.length ≤ 1000 then (5, B (b ++ t), 0, 0, ((i + n - i0 : Nat) : Int)) else (0, ⟨#[]⟩, 0, 0, 0)
                | none => (0, ⟨#[]⟩, 0, 0, 0)) := by
                intro x
                rw [ih (m - 2) (by omega) (i + 2) _ k (by omega) (by omega) (by simp; omega) (by omega)]
                simp only []
                cases textL (L.drop (i + 1 + 1)) with
                | none => rfl
                | some p =>
                  obtain ⟨t, n⟩ := p
                  simp only [Option.map_some, List.append_assoc, List.singleton_append, List.length_append, List.length_cons, List.length_nil]
                  rw [show b.length + (0 + 1) + t.length = b.length + (t.length + 1) by omega, show i + 2 + n - i0 = i + (n + 2) - i0 by omega]
              have lit : ∀ q, touchstoneref06_text.j2 (k + 1) (B L) i0 (B b) ((i + 1 : Nat) : Int) q true = touchstoneref06_text.l0 k (B L) i0 (B (b ++ [d])) ((i + 2 : Nat) : Int) := by
                intro q
                rw [touchstoneref06_text.j2, if_pos rfl, wadd1 (a := i + 1) (by omega), if_pos (by omega), if_pos (by omega), sz_B, if_pos (by omega), Int.toNat_natCast, Int.toNat_natCast, ex_one (by omega), hd, B_app, sz_B, sz_B, if_pos (by simp; omega)]
              by_cases d92 : d = 92
              · subst d92
                rw [if_pos (by decide), show (((92 : UInt8).toNat : Int) == 92) = true from rfl, lit, hcont]
                rfl
              rw [if_neg (ne92 d92)]
              by_cases d34 : d = 34
              · subst d34
                rw [show (((34 : UInt8).toNat : Int) == 34) = true from rfl, lit, hcont]
                rfl
              rw [show (((d.toNat : Nat) : Int) == 34) = false from by rw [beq_eq_false_iff_ne]; exact ne34 d34, touchstoneref06_text.j2, if_neg (by decide), wadd1 (a := i + 1) (by omega), sz_B]
              by_cases d110 : d = 110
              · subst d110
                rw [if_pos (by decide), if_pos (by omega), show (⟨#[10]⟩ : ByteArray) = B [10] from rfl, B_app, hcont]
                rfl
              rw [if_neg (ne110 d110)]
              by_cases d116 : d = 116
              · subst d116
                rw [if_pos (by decide), if_pos (by omega), show (⟨#[9]⟩ : ByteArray) = B [9] from rfl, B_app, hcont]
                rfl
              rw [if_neg (ne116 d116)]
              have : escOf d = none := by unfold escOf; rw [if_neg d92, if_neg d34, if_neg d110, if_neg d116]
              simp only [this]
          · rw [if_neg (ne92 h92), if_neg h92, wadd1 (a := i) (by omega), if_pos (by omega), if_pos (by omega), Int.toNat_natCast, Int.toNat_natCast, ex_one hlt, hc, B_app, sz_B, sz_B, if_pos (by simp; omega), ih (m - 1) (by omega) (i + 1) _ (k + 1) (by omega) (by omega) (by simp; omega) (by omega)]
            cases textL (L.drop (i + 1)) with
            | none => rfl
            | some p =>
              obtain ⟨t, n⟩ := p
              simp only [Option.map_some, List.append_assoc, List.singleton_append, List.length_append, List.length_cons, List.length_nil]
              rw [show b.length + (0 + 1) + t.length = b.length + (t.length + 1) by omega, show i + 1 + n - i0 = i + (n + 1) - i0 by omega]
    · rw [if_neg (by omega), List.drop_of_length_le (by omega)]
      rfl
theorem rtext (L : List UInt8) (hL : L.length ≤ 1000000) (i : Nat) (hi : i < L.length) (k : Nat) (hk : 3000010 ≤ k) :
    touchstoneref06_text.f k (B L) i = some (match textL (L.drop (i + 1)) with
      | some (t, n) => if t.length ≤ 1000 then (5, B t, 0, 0, ((n + 1 : Nat) : Int)) else (0, ⟨#[]⟩, 0, 0, 0)
      | none => (0, ⟨#[]⟩, 0, 0, 0)) := by
  have h := rtext_loop L hL i (by omega) (L.length - (i + 1)) (i + 1) [] k (by omega) (by omega) (by simp) (by omega)
  unfold touchstoneref06_text.f
  rw [wadd1 (by omega), show (⟨#[]⟩ : ByteArray) = B [] from rfl, h]
  cases textL (L.drop (i + 1)) with
  | none => rfl
  | some p =>
    obtain ⟨t, n⟩ := p
    simp only [List.nil_append, List.length_nil, Nat.zero_add]
    rw [show i + 1 + n - i = n + 1 by omega]
end Go.Proofs.YtaikpnenegifnaaGreatDoor
