import Derived.Test.YtaikpnenegifnaaGreatDoorXLx3
import Derived.Test.YtaikpnenegifnaaGreatDoorXLx4
import Derived.Test.YtaikpnenegifnaaGreatDoorXLx6
import Derived.Test.YtaikpnenegifnaaGreatDoorXLx2
/- touchstoneref06.One, way by way: what it returns on each way through it. -/
namespace Go.Proofs.YtaikpnenegifnaaGreatDoor
set_option linter.unusedSimpArgs false
set_option linter.unusedVariables false
open Go.RowKit Go.Proofs.YtaikpnenegifnaaGreatDoorW.PrintWords Go.Proofs.YtaikpnenegifnaaGreatDoor.XL

/-- Where the result's place stands behind a call: its four cells, free to be written. -/
structure Box4 (w w1 : World) (a b c d : Value) : Prop where
  c0 : w1.cell? ⟨w.heap.size, 0, none⟩ = some a
  c1 : w1.cell? ⟨w.heap.size, 1, none⟩ = some b
  c2 : w1.cell? ⟨w.heap.size, 2, none⟩ = some c
  c3 : w1.cell? ⟨w.heap.size, 3, none⟩ = some d
  f0 : w1.frozen? ⟨w.heap.size, 0, none⟩ = false
  f1 : w1.frozen? ⟨w.heap.size, 1, none⟩ = false
  f2 : w1.frozen? ⟨w.heap.size, 2, none⟩ = false
  f3 : w1.frozen? ⟨w.heap.size, 3, none⟩ = false
  lt : w.heap.size < w1.heap.size
  bel : Below w.heap.size w w1
theorem Box4.start {w w1 : World} {a b c d : Value} {T : TypeId} (hb : Below (w.alloc (.cells #[a, b, c, d] T)).heap.size (w.alloc (.cells #[a, b, c, d] T)) w1) : Box4 w w1 a b c d := by
  have hz := hb.size
  simp at hz
  refine ⟨(hb.cell (p := ⟨_, _, none⟩) (by simp)).trans ?_, (hb.cell (p := ⟨_, _, none⟩) (by simp)).trans ?_, (hb.cell (p := ⟨_, _, none⟩) (by simp)).trans ?_, (hb.cell (p := ⟨_, _, none⟩) (by simp)).trans ?_, (hb.frozen (p := ⟨_, _, none⟩) (by simp)).trans ?_, (hb.frozen (p := ⟨_, _, none⟩) (by simp)).trans ?_, (hb.frozen (p := ⟨_, _, none⟩) (by simp)).trans ?_, (hb.frozen (p := ⟨_, _, none⟩) (by simp)).trans ?_, by omega, ((Below.refl _ _).alloc (Nat.le_refl _) _).trans (hb.mono (by simp))⟩ <;> go_simp
theorem lit_C (W : World) (xs : List ByteArray) (T : TypeId) (h : xs.length ≤ 1000000) : Kd.string.C (W.alloc (.cells (xs.map Value.string).toArray T)) (some ⟨W.heap.size, 0, none⟩) xs.length xs := by
  refine ⟨rfl, by omega, fun _ => ⟨_, rfl, fun j p hp => ⟨[.string p], rfl, rfl, ?_⟩⟩⟩
  intro q u hu
  match q, hu with
  | 0, hu =>
    simp only [List.getElem?_cons_zero, Option.some.injEq] at hu
    subst hu
    show (W.alloc (.cells (xs.map Value.string).toArray T)).cell? (Addr.add ⟨W.heap.size, 0, none⟩ (j * 1 + 0)) = some (.string p)
    have e : (Addr.add ⟨W.heap.size, 0, none⟩ (j * 1 + 0)) = ⟨W.heap.size, j, none⟩ := by cases j <;> simp [Addr.add]
    rw [e, World.cell?_alloc_at _ _ _ _ rfl, List.getElem?_toArray, List.getElem?_map, hp]
    rfl
  | q + 1, hu => simp at hu
theorem lit_C2 (W : World) (b : Nat) (xs : List ByteArray) (T : TypeId) (h : xs.length ≤ 1000000) (hb : W.heap.size = b) : Kd.string.C (W.alloc (.cells (xs.map Value.string).toArray T)) (some ⟨b, 0, none⟩) xs.length xs := by
  subst hb; exact lit_C W xs T h
theorem Box4.start1 {w w1 : World} {a b c d : Value} {T : TypeId} {n1 : Nat} (hb : Below ((w.alloc (.cells #[a, b, c, d] T)).drewN n1).heap.size ((w.alloc (.cells #[a, b, c, d] T)).drewN n1) w1) : Box4 w w1 a b c d := Box4.start (T := T) ((pw_below_drewN (Below.refl _ _) _).trans hb)
theorem Box4.start2 {w w1 : World} {a b c d : Value} {T : TypeId} {n1 n2 : Nat} (hb : Below (((w.alloc (.cells #[a, b, c, d] T)).drewN n1).drewN n2).heap.size (((w.alloc (.cells #[a, b, c, d] T)).drewN n1).drewN n2) w1) : Box4 w w1 a b c d := Box4.start (T := T) ((pw_below_drewN (pw_below_drewN (Below.refl _ _) _) _).trans hb)
theorem Box4.start3 {w w1 : World} {a b c d : Value} {T : TypeId} {n1 n2 n3 : Nat} (hb : Below ((((w.alloc (.cells #[a, b, c, d] T)).drewN n1).drewN n2).drewN n3).heap.size ((((w.alloc (.cells #[a, b, c, d] T)).drewN n1).drewN n2).drewN n3) w1) : Box4 w w1 a b c d := Box4.start (T := T) ((pw_below_drewN (pw_below_drewN (pw_below_drewN (Below.refl _ _) _) _) _).trans hb)
theorem Box4.start4 {w w1 : World} {a b c d : Value} {T : TypeId} {n1 n2 n3 n4 : Nat} (hb : Below (((((w.alloc (.cells #[a, b, c, d] T)).drewN n1).drewN n2).drewN n3).drewN n4).heap.size (((((w.alloc (.cells #[a, b, c, d] T)).drewN n1).drewN n2).drewN n3).drewN n4) w1) : Box4 w w1 a b c d := Box4.start (T := T) ((pw_below_drewN (pw_below_drewN (pw_below_drewN (pw_below_drewN (Below.refl _ _) _) _) _) _).trans hb)
theorem Box4.start5 {w w1 : World} {a b c d : Value} {T : TypeId} {n1 n2 n3 n4 n5 : Nat} (hb : Below ((((((w.alloc (.cells #[a, b, c, d] T)).drewN n1).drewN n2).drewN n3).drewN n4).drewN n5).heap.size ((((((w.alloc (.cells #[a, b, c, d] T)).drewN n1).drewN n2).drewN n3).drewN n4).drewN n5) w1) : Box4 w w1 a b c d := Box4.start (T := T) ((pw_below_drewN (pw_below_drewN (pw_below_drewN (pw_below_drewN (pw_below_drewN (Below.refl _ _) _) _) _) _) _).trans hb)
theorem Box4.start6 {w w1 : World} {a b c d : Value} {T : TypeId} {n1 n2 n3 n4 n5 n6 : Nat} (hb : Below (((((((w.alloc (.cells #[a, b, c, d] T)).drewN n1).drewN n2).drewN n3).drewN n4).drewN n5).drewN n6).heap.size (((((((w.alloc (.cells #[a, b, c, d] T)).drewN n1).drewN n2).drewN n3).drewN n4).drewN n5).drewN n6) w1) : Box4 w w1 a b c d := Box4.start (T := T) ((pw_below_drewN (pw_below_drewN (pw_below_drewN (pw_below_drewN (pw_below_drewN (pw_below_drewN (Below.refl _ _) _) _) _) _) _) _).trans hb)
theorem Box4.step {w w1 w2 : World} {a b c d : Value} (h : Box4 w w1 a b c d) (hb : Below w1.heap.size w1 w2) : Box4 w w2 a b c d := by
  have hz := h.lt
  exact ⟨(hb.cell (p := ⟨_, _, none⟩) hz).trans h.c0, (hb.cell (p := ⟨_, _, none⟩) hz).trans h.c1, (hb.cell (p := ⟨_, _, none⟩) hz).trans h.c2, (hb.cell (p := ⟨_, _, none⟩) hz).trans h.c3, (hb.frozen (p := ⟨_, _, none⟩) hz).trans h.f0, (hb.frozen (p := ⟨_, _, none⟩) hz).trans h.f1, (hb.frozen (p := ⟨_, _, none⟩) hz).trans h.f2, (hb.frozen (p := ⟨_, _, none⟩) hz).trans h.f3, Nat.lt_of_lt_of_le hz hb.size, h.bel.trans (hb.mono (by omega))⟩

set_option maxRecDepth 100000 in
set_option maxHeartbeats 1000000 in
theorem one_var_0 (s : ByteArray) (i k : Nat) (w : World) (hs : s.size ≤ 1000000) (hlt : i < s.size) (hc : ((s[i]'hlt).toNat : Int) = 39) (hN : touchstoneref06_named.f k s ((i : Int) + 1) false = some 0) :
    Calls Tryz.prog 32 #[.string s, .int .i64 i] w fun e w' => e = .returned (.tuple #[.agg #[.int .i64 0, .string ⟨#[]⟩, .int .i64 0, .int .i64 0], .int .i64 0]) ∧ Below w.heap.size w w' := by
  have q1 := eq_true (show (0 : Int) ≤ (i : Int) by omega)
  have q2 : ((i : Int) < (s.size : Int)) = True := eq_true (by omega)
  have HN := Aside0.mk hN
  clear hN
  go_enter Tryz.func32, Tryz.ntmps32
  go_wp2_with (first | (go_at_call 56; refine (touchstoneref06_small.calls 39 false _ rfl).mono ?_; rintro e w1 ⟨rfl, nd, rfl⟩) | (go_at_call 57; refine (touchstoneref06_great.calls 39 false _ rfl).mono ?_; rintro e w1 ⟨rfl, nd, rfl⟩) | (go_at_call 58; refine (touchstoneref06_named.calls k s ((i : Int) + 1) false 0 _ HN.out).mono ?_; rintro e w1 ⟨rfl, nd, rfl⟩))
  refine bodyPost_ret (v := (.tuple #[.agg #[.int .i64 0, .string ⟨#[]⟩, .int .i64 0, .int .i64 0], .int .i64 0])) (by simp [results, Tryz.results32, go_sem]) rfl ⟨rfl, ?_⟩
  repeat (first | refine Below.setCell ?_ (by simp) _ | refine pw_below_drewN ?_ _ | exact (Below.refl _ _).alloc (Nat.le_refl _) _ | refine Below.alloc ?_ (by simp) _)

set_option maxRecDepth 100000 in
set_option maxHeartbeats 1000000 in
theorem one_var_30 (s : ByteArray) (i k : Nat) (w : World) (hs : s.size ≤ 1000000) (hlt : i < s.size) (hc : ((s[i]'hlt).toNat : Int) = 39) (n : Nat) (hN : touchstoneref06_named.f k s ((i : Int) + 1) false = some (n : Int)) (h0 : 0 < n) (h30 : 30 < n + 1) (hn : n ≤ s.size) :
    Calls Tryz.prog 32 #[.string s, .int .i64 i] w fun e w' => e = .returned (.tuple #[.agg #[.int .i64 0, .string ⟨#[]⟩, .int .i64 0, .int .i64 0], .int .i64 0]) ∧ Below w.heap.size w w' := by
  have q1 := eq_true (show (0 : Int) ≤ (i : Int) by omega)
  have q2 : ((i : Int) < (s.size : Int)) = True := eq_true (by omega)
  have HN := Aside0.mk hN
  clear hN
  have e0 : ((n : Int) == 0) = false := by rw [beq_eq_false_iff_ne]; omega
  have e1 : decide ((30 : Int) < (n : Int) + 1) = true := decide_eq_true (by omega)
  go_enter Tryz.func32, Tryz.ntmps32
  go_wp2_with (first | (go_at_call 56; refine (touchstoneref06_small.calls 39 false _ rfl).mono ?_; rintro e w1 ⟨rfl, nd, rfl⟩) | (go_at_call 57; refine (touchstoneref06_great.calls 39 false _ rfl).mono ?_; rintro e w1 ⟨rfl, nd, rfl⟩) | (go_at_call 58; refine (touchstoneref06_named.calls k s ((i : Int) + 1) false (n : Int) _ HN.out).mono ?_; rintro e w1 ⟨rfl, nd, rfl⟩))
  refine bodyPost_ret (v := (.tuple #[.agg #[.int .i64 0, .string ⟨#[]⟩, .int .i64 0, .int .i64 0], .int .i64 0])) (by simp [results, Tryz.results32, go_sem]) rfl ⟨rfl, ?_⟩
  repeat (first | refine Below.setCell ?_ (by simp) _ | refine pw_below_drewN ?_ _ | exact (Below.refl _ _).alloc (Nat.le_refl _) _ | refine Below.alloc ?_ (by simp) _)

set_option maxRecDepth 100000 in
set_option maxHeartbeats 1000000 in
theorem one_var_s (s : ByteArray) (i k : Nat) (w : World) (hs : s.size ≤ 1000000) (hlt : i < s.size) (hc : ((s[i]'hlt).toNat : Int) = 39) (n : Nat) (hN : touchstoneref06_named.f k s ((i : Int) + 1) false = some (n : Int)) (h0 : 0 < n) (h30 : n + 1 ≤ 30) (hlt1 : i + 1 < s.size) (hS : touchstoneref06_small.f ((s[i + 1]'hlt1).toNat : Int) = some false) :
    Calls Tryz.prog 32 #[.string s, .int .i64 i] w fun e w' => e = .returned (.tuple #[.agg #[.int .i64 0, .string ⟨#[]⟩, .int .i64 0, .int .i64 0], .int .i64 0]) ∧ Below w.heap.size w w' := by
  have q1 := eq_true (show (0 : Int) ≤ (i : Int) by omega)
  have q2 : ((i : Int) < (s.size : Int)) = True := eq_true (by omega)
  have HN := Aside0.mk hN
  have HS := Aside0.mk hS
  clear hN hS
  have e0 : ((n : Int) == 0) = false := by rw [beq_eq_false_iff_ne]; omega
  have e1 : decide ((30 : Int) < (n : Int) + 1) = false := decide_eq_false (by omega)
  have q3 := eq_true (show (0 : Int) ≤ (i : Int) + 1 by omega)
  have q4 : ((i : Int) + 1 < (s.size : Int)) = True := eq_true (by omega)
  go_enter Tryz.func32, Tryz.ntmps32
  go_wp2_with (first | (go_at_call 57; refine (touchstoneref06_great.calls 39 false _ rfl).mono ?_; rintro e w1 ⟨rfl, nd, rfl⟩) | (go_at_call 58; refine (touchstoneref06_named.calls k s ((i : Int) + 1) false (n : Int) _ HN.out).mono ?_; rintro e w1 ⟨rfl, nd, rfl⟩) | (go_at_call 56; refine (touchstoneref06_small.calls 39 false _ rfl).mono ?_; rintro e w1 ⟨rfl, nd, rfl⟩) | (go_at_call 56; refine (touchstoneref06_small.calls _ false _ HS.out).mono ?_; rintro e w1 ⟨rfl, nd, rfl⟩))
  refine bodyPost_ret (v := (.tuple #[.agg #[.int .i64 0, .string ⟨#[]⟩, .int .i64 0, .int .i64 0], .int .i64 0])) (by simp [results, Tryz.results32, go_sem]) rfl ⟨rfl, ?_⟩
  repeat (first | refine Below.setCell ?_ (by simp) _ | refine pw_below_drewN ?_ _ | exact (Below.refl _ _).alloc (Nat.le_refl _) _ | refine Below.alloc ?_ (by simp) _)

set_option maxRecDepth 100000 in
set_option maxHeartbeats 1000000 in
theorem one_var (s : ByteArray) (i k : Nat) (w : World) (hs : s.size ≤ 1000000) (hlt : i < s.size) (hc : ((s[i]'hlt).toNat : Int) = 39) (n : Nat) (hN : touchstoneref06_named.f k s ((i : Int) + 1) false = some (n : Int)) (h0 : 0 < n) (h30 : n + 1 ≤ 30) (hin : i + 1 + n ≤ s.size) (hlt1 : i + 1 < s.size) (hS : touchstoneref06_small.f ((s[i + 1]'hlt1).toNat : Int) = some true) :
    Calls Tryz.prog 32 #[.string s, .int .i64 i] w fun e w' => e = .returned (.tuple #[.agg #[.int .i64 3, .string (s.extract (i + 1) (i + 1 + n)), .int .i64 0, .int .i64 0], .int .i64 ((n : Int) + 1)]) ∧ Below w.heap.size w w' := by
  have q1 := eq_true (show (0 : Int) ≤ (i : Int) by omega)
  have q2 : ((i : Int) < (s.size : Int)) = True := eq_true (by omega)
  have HN := Aside0.mk hN
  have HS := Aside0.mk hS
  clear hN hS
  have e0 : ((n : Int) == 0) = false := by rw [beq_eq_false_iff_ne]; omega
  have e1 : decide ((30 : Int) < (n : Int) + 1) = false := decide_eq_false (by omega)
  have q3 := eq_true (show (0 : Int) ≤ (i : Int) + 1 by omega)
  have q4 : ((i : Int) + 1 < (s.size : Int)) = True := eq_true (by omega)
  have q5 := eq_true (show (i : Int) + 1 ≤ (i : Int) + 1 + n by omega)
  have q6 := eq_true (show (i : Int) + 1 + n ≤ (s.size : Int) by omega)
  go_enter Tryz.func32, Tryz.ntmps32
  go_wp2_with (first | (go_at_call 57; refine (touchstoneref06_great.calls 39 false _ rfl).mono ?_; rintro e w1 ⟨rfl, nd, rfl⟩) | (go_at_call 58; refine (touchstoneref06_named.calls k s ((i : Int) + 1) false (n : Int) _ HN.out).mono ?_; rintro e w1 ⟨rfl, nd, rfl⟩) | (go_at_call 56; refine (touchstoneref06_small.calls 39 false _ rfl).mono ?_; rintro e w1 ⟨rfl, nd, rfl⟩) | (go_at_call 56; refine (touchstoneref06_small.calls _ true _ HS.out).mono ?_; rintro e w1 ⟨rfl, nd, rfl⟩))
  refine bodyPost_ret (v := (.tuple #[.agg #[.int .i64 3, .string (s.extract (i + 1) (i + 1 + n)), .int .i64 0, .int .i64 0], .int .i64 ((n : Int) + 1)])) (by simp [results, Tryz.results32, go_sem]) rfl ⟨rfl, ?_⟩
  repeat (first | refine Below.setCell ?_ (by simp) _ | refine pw_below_drewN ?_ _ | exact (Below.refl _ _).alloc (Nat.le_refl _) _ | refine Below.alloc ?_ (by simp) _)

set_option maxRecDepth 100000 in
set_option maxHeartbeats 1000000 in
theorem one_text (s : ByteArray) (i k : Nat) (w : World) (hs : s.size ≤ 1000000) (hlt : i < s.size) (hc : ((s[i]'hlt).toNat : Int) = 34) (kd : Int) (t : ByteArray) (n : Int) (hT : touchstoneref06_text.f k s (i : Int) = some (kd, t, 0, 0, n)) :
    Calls Tryz.prog 32 #[.string s, .int .i64 i] w fun e w' => e = .returned (.tuple #[.agg #[.int .i64 kd, .string t, .int .i64 0, .int .i64 0], .int .i64 n]) ∧ Below w.heap.size w w' := by
  have q1 := eq_true (show (0 : Int) ≤ (i : Int) by omega)
  have q2 : ((i : Int) < (s.size : Int)) = True := eq_true (by omega)
  have HT := Aside0.mk hT
  clear hT
  go_enter Tryz.func32, Tryz.ntmps32
  go_wp2_with (first | (go_at_call 56; refine (touchstoneref06_small.calls 34 false _ rfl).mono ?_; rintro e w1 ⟨rfl, nd, rfl⟩) | (go_at_call 57; refine (touchstoneref06_great.calls 34 false _ rfl).mono ?_; rintro e w1 ⟨rfl, nd, rfl⟩) | (go_at_call 59; refine (touchstoneref06_text.calls k s (i : Int) kd t 0 0 n _ HT.out).mono ?_; rintro e w1 ⟨rfl, hb⟩; have HB1 : Aside0 (Box4 w w1 (.int .i64 0) (.string ⟨#[]⟩) (.int .i64 0) (.int .i64 0)) := ⟨(by first | exact Box4.start hb | exact Box4.start1 hb | exact Box4.start2 hb | exact Box4.start3 hb | exact Box4.start4 hb | exact Box4.start5 hb | exact Box4.start6 hb)⟩; clear hb; obtain ⟨m10, m11, m12, m13, g10, g11, g12, g13, lt1, _⟩ := HB1.out))
  refine bodyPost_ret (v := (.tuple #[.agg #[.int .i64 kd, .string t, .int .i64 0, .int .i64 0], .int .i64 n])) (by simp [results, Tryz.results32, go_sem, m10, m11, m12, m13]) rfl ⟨rfl, ?_⟩
  repeat (first | refine Below.setCell ?_ (by simp) _ | refine pw_below_drewN ?_ _ | exact HB1.out.bel)

set_option maxRecDepth 100000 in
set_option maxHeartbeats 1000000 in
theorem one_arrow (s : ByteArray) (i k : Nat) (w : World) (hs : s.size ≤ 1000000) (hlt : i < s.size) (hc : ((s[i]'hlt).toNat : Int) = 45) (hlt1 : i + 1 < s.size) (h62 : ((s[i + 1]'hlt1).toNat : Int) = 62) :
    Calls Tryz.prog 32 #[.string s, .int .i64 i] w fun e w' => e = .returned (.tuple #[.agg #[.int .i64 8, .string ⟨#[45, 62]⟩, .int .i64 0, .int .i64 0], .int .i64 2]) ∧ Below w.heap.size w w' := by
  have q1 := eq_true (show (0 : Int) ≤ (i : Int) by omega)
  have q2 : ((i : Int) < (s.size : Int)) = True := eq_true (by omega)
  have q3 := eq_true (show (0 : Int) ≤ (i : Int) + 1 by omega)
  have q4 : ((i : Int) + 1 < (s.size : Int)) = True := eq_true (by omega)
  have e62 : (((s[i + 1]'hlt1).toNat : Int) == 62) = true := by rw [h62]; rfl
  clear h62
  go_enter Tryz.func32, Tryz.ntmps32
  go_wp2_with (first | (go_at_call 56; refine (touchstoneref06_small.calls 45 false _ rfl).mono ?_; rintro e w1 ⟨rfl, nd, rfl⟩) | (go_at_call 57; refine (touchstoneref06_great.calls 45 false _ rfl).mono ?_; rintro e w1 ⟨rfl, nd, rfl⟩))
  refine bodyPost_ret (v := (.tuple #[.agg #[.int .i64 8, .string ⟨#[45, 62]⟩, .int .i64 0, .int .i64 0], .int .i64 2])) (by simp [results, Tryz.results32, go_sem]) rfl ⟨rfl, ?_⟩
  repeat (first | refine Below.setCell ?_ (by simp) _ | refine pw_below_drewN ?_ _ | exact (Below.refl _ _).alloc (Nat.le_refl _) _ | refine Below.alloc ?_ (by simp) _)

set_option maxRecDepth 100000 in
set_option maxHeartbeats 1000000 in
theorem one_name_a_30 (s : ByteArray) (i k : Nat) (w : World) (hs : s.size ≤ 1000000) (hlt : i < s.size) (c : Int) (hc : ((s[i]'hlt).toNat : Int) = c) (n : Nat) (hN : touchstoneref06_named.f k s (i : Int) true = some (n : Int)) (hS : touchstoneref06_small.f c = some true) (hin : i + n ≤ s.size) (h30 : 30 < n) :
    Calls Tryz.prog 32 #[.string s, .int .i64 i] w fun e w' => e = .returned (.tuple #[.agg #[.int .i64 0, .string ⟨#[]⟩, .int .i64 0, .int .i64 0], .int .i64 0]) ∧ Below w.heap.size w w' := by
  have q1 := eq_true (show (0 : Int) ≤ (i : Int) by omega)
  have q2 : ((i : Int) < (s.size : Int)) = True := eq_true (by omega)
  have HN := Aside0.mk hN
  have HS := Aside0.mk hS
  clear hN hS
  have q5 := eq_true (show (i : Int) ≤ (i : Int) + n by omega)
  have q6 := eq_true (show (i : Int) + n ≤ (s.size : Int) by omega)
  have e1 : decide ((30 : Int) < (n : Int)) = true := decide_eq_true (by omega)
  go_enter Tryz.func32, Tryz.ntmps32
  go_wp2_with (first | (go_at_call 56; refine (touchstoneref06_small.calls _ true _ HS.out).mono ?_; rintro e w1 ⟨rfl, nd, rfl⟩) | (go_at_call 58; refine (touchstoneref06_named.calls k s (i : Int) true (n : Int) _ HN.out).mono ?_; rintro e w1 ⟨rfl, nd, rfl⟩))
  refine bodyPost_ret (v := (.tuple #[.agg #[.int .i64 0, .string ⟨#[]⟩, .int .i64 0, .int .i64 0], .int .i64 0])) (by simp [results, Tryz.results32, go_sem]) rfl ⟨rfl, ?_⟩
  repeat (first | refine Below.setCell ?_ (by simp) _ | refine pw_below_drewN ?_ _ | exact (Below.refl _ _).alloc (Nat.le_refl _) _ | refine Below.alloc ?_ (by simp) _)

set_option maxRecDepth 100000 in
set_option maxHeartbeats 1000000 in
theorem one_name_a_7 (s : ByteArray) (i k : Nat) (w : World) (hs : s.size ≤ 1000000) (hlt : i < s.size) (c : Int) (hc : ((s[i]'hlt).toNat : Int) = c) (n : Nat) (hN : touchstoneref06_named.f k s (i : Int) true = some (n : Int)) (hS : touchstoneref06_small.f c = some true) (hG : touchstoneref06_great.f c = some false) (hin : i + n ≤ s.size) (h30 : n ≤ 30) (hU : ((s.extract i (i + n)).toList == ([95] : List UInt8)) = false) (kws : List ByteArray) (hK : touchstoneref06_Keywords.f = some kws) (hI : touchstoneref06_In.f k (s.extract i (i + n)) kws = some true) :
    Calls Tryz.prog 32 #[.string s, .int .i64 i] w fun e w' => e = .returned (.tuple #[.agg #[.int .i64 7, .string (s.extract i (i + n)), .int .i64 0, .int .i64 0], .int .i64 (n : Int)]) ∧ Below w.heap.size w w' := by
  have q1 := eq_true (show (0 : Int) ≤ (i : Int) by omega)
  have q2 : ((i : Int) < (s.size : Int)) = True := eq_true (by omega)
  have HN := Aside0.mk hN
  have HK := Aside0.mk hK
  have HI := Aside0.mk hI
  have HS := Aside0.mk hS
  have HG := Aside0.mk hG
  clear hN hK hI hS hG
  have q5 := eq_true (show (i : Int) ≤ (i : Int) + n by omega)
  have q6 := eq_true (show (i : Int) + n ≤ (s.size : Int) by omega)
  have e1 : decide ((30 : Int) < (n : Int)) = false := decide_eq_false (by omega)
  go_enter Tryz.func32, Tryz.ntmps32
  go_wp2_with (first | (go_at_call 56; refine (touchstoneref06_small.calls _ true _ HS.out).mono ?_; rintro e w1 ⟨rfl, nd, rfl⟩) | (go_at_call 57; refine (touchstoneref06_great.calls _ false _ HG.out).mono ?_; rintro e w1 ⟨rfl, nd, rfl⟩) | (go_at_call 58; refine (touchstoneref06_named.calls k s (i : Int) true (n : Int) _ HN.out).mono ?_; rintro e w1 ⟨rfl, nd, rfl⟩) | (go_at_call 17; refine (touchstoneref06_Keywords.calls kws _ HK.out).mono ?_; rintro e w1 ⟨v0, rfl, hR, hb⟩; obtain ⟨Ak, ck, rfl⟩ := Kd.R_slice hR; have HR := Aside0.mk hR; clear hR; have HB1 : Aside0 (Box4 w w1 (.int .i64 0) (.string ⟨#[]⟩) (.int .i64 0) (.int .i64 0)) := ⟨by first | exact Box4.start hb | exact Box4.start1 hb | exact Box4.start2 hb | exact Box4.start3 hb | exact Box4.start4 hb | exact Box4.start5 hb | exact Box4.start6 hb⟩; clear hb; obtain ⟨m10, m11, m12, m13, g10, g11, g12, g13, lt1, _⟩ := HB1.out) | (go_at_call 16; refine (touchstoneref06_In.calls k _ Ak ck kws true _ (Kd.R_reads' HR.out).2.2 (Kd.R_reads' HR.out).2.1 HI.out).mono ?_; rintro e w2 ⟨rfl, nd, rfl⟩))
  refine bodyPost_ret (v := (.tuple #[.agg #[.int .i64 7, .string (s.extract i (i + n)), .int .i64 0, .int .i64 0], .int .i64 (n : Int)])) (by simp [results, Tryz.results32, go_sem, m10, m11, m12, m13]) rfl ⟨rfl, ?_⟩
  repeat (first | refine Below.setCell ?_ (by simp) _ | refine pw_below_drewN ?_ _ | exact HB1.out.bel)

set_option maxRecDepth 100000 in
set_option maxHeartbeats 1000000 in
theorem one_name_a_1 (s : ByteArray) (i k : Nat) (w : World) (hs : s.size ≤ 1000000) (hlt : i < s.size) (c : Int) (hc : ((s[i]'hlt).toNat : Int) = c) (n : Nat) (hN : touchstoneref06_named.f k s (i : Int) true = some (n : Int)) (hS : touchstoneref06_small.f c = some true) (hG : touchstoneref06_great.f c = some false) (hin : i + n ≤ s.size) (h30 : n ≤ 30) (hU : ((s.extract i (i + n)).toList == ([95] : List UInt8)) = false) (kws : List ByteArray) (hK : touchstoneref06_Keywords.f = some kws) (hI : touchstoneref06_In.f k (s.extract i (i + n)) kws = some false) :
    Calls Tryz.prog 32 #[.string s, .int .i64 i] w fun e w' => e = .returned (.tuple #[.agg #[.int .i64 1, .string (s.extract i (i + n)), .int .i64 0, .int .i64 0], .int .i64 (n : Int)]) ∧ Below w.heap.size w w' := by
  have q1 := eq_true (show (0 : Int) ≤ (i : Int) by omega)
  have q2 : ((i : Int) < (s.size : Int)) = True := eq_true (by omega)
  have HN := Aside0.mk hN
  have HK := Aside0.mk hK
  have HI := Aside0.mk hI
  have HS := Aside0.mk hS
  have HG := Aside0.mk hG
  clear hN hK hI hS hG
  have q5 := eq_true (show (i : Int) ≤ (i : Int) + n by omega)
  have q6 := eq_true (show (i : Int) + n ≤ (s.size : Int) by omega)
  have e1 : decide ((30 : Int) < (n : Int)) = false := decide_eq_false (by omega)
  go_enter Tryz.func32, Tryz.ntmps32
  go_wp2_with (first | (go_at_call 56; refine (touchstoneref06_small.calls _ true _ HS.out).mono ?_; rintro e w1 ⟨rfl, nd, rfl⟩) | (go_at_call 57; refine (touchstoneref06_great.calls _ false _ HG.out).mono ?_; rintro e w1 ⟨rfl, nd, rfl⟩) | (go_at_call 58; refine (touchstoneref06_named.calls k s (i : Int) true (n : Int) _ HN.out).mono ?_; rintro e w1 ⟨rfl, nd, rfl⟩) | (go_at_call 17; refine (touchstoneref06_Keywords.calls kws _ HK.out).mono ?_; rintro e w1 ⟨v0, rfl, hR, hb⟩; obtain ⟨Ak, ck, rfl⟩ := Kd.R_slice hR; have HR := Aside0.mk hR; clear hR; have HB1 : Aside0 (Box4 w w1 (.int .i64 0) (.string ⟨#[]⟩) (.int .i64 0) (.int .i64 0)) := ⟨by first | exact Box4.start hb | exact Box4.start1 hb | exact Box4.start2 hb | exact Box4.start3 hb | exact Box4.start4 hb | exact Box4.start5 hb | exact Box4.start6 hb⟩; clear hb; obtain ⟨m10, m11, m12, m13, g10, g11, g12, g13, lt1, _⟩ := HB1.out) | (go_at_call 16; refine (touchstoneref06_In.calls k _ Ak ck kws false _ (Kd.R_reads' HR.out).2.2 (Kd.R_reads' HR.out).2.1 HI.out).mono ?_; rintro e w2 ⟨rfl, nd, rfl⟩))
  refine bodyPost_ret (v := (.tuple #[.agg #[.int .i64 1, .string (s.extract i (i + n)), .int .i64 0, .int .i64 0], .int .i64 (n : Int)])) (by simp [results, Tryz.results32, go_sem, m10, m11, m12, m13]) rfl ⟨rfl, ?_⟩
  repeat (first | refine Below.setCell ?_ (by simp) _ | refine pw_below_drewN ?_ _ | exact HB1.out.bel)

set_option maxRecDepth 100000 in
set_option maxHeartbeats 1000000 in
theorem one_name_b_30 (s : ByteArray) (i k : Nat) (w : World) (hs : s.size ≤ 1000000) (hlt : i < s.size) (c : Int) (hc : ((s[i]'hlt).toNat : Int) = c) (n : Nat) (hN : touchstoneref06_named.f k s (i : Int) true = some (n : Int)) (hS : touchstoneref06_small.f c = some false) (hG : touchstoneref06_great.f c = some true) (hin : i + n ≤ s.size) (h30 : 30 < n) :
    Calls Tryz.prog 32 #[.string s, .int .i64 i] w fun e w' => e = .returned (.tuple #[.agg #[.int .i64 0, .string ⟨#[]⟩, .int .i64 0, .int .i64 0], .int .i64 0]) ∧ Below w.heap.size w w' := by
  have q1 := eq_true (show (0 : Int) ≤ (i : Int) by omega)
  have q2 : ((i : Int) < (s.size : Int)) = True := eq_true (by omega)
  have HN := Aside0.mk hN
  have HS := Aside0.mk hS
  have HG := Aside0.mk hG
  clear hN hS hG
  have q5 := eq_true (show (i : Int) ≤ (i : Int) + n by omega)
  have q6 := eq_true (show (i : Int) + n ≤ (s.size : Int) by omega)
  have e1 : decide ((30 : Int) < (n : Int)) = true := decide_eq_true (by omega)
  go_enter Tryz.func32, Tryz.ntmps32
  go_wp2_with (first | (go_at_call 56; refine (touchstoneref06_small.calls _ false _ HS.out).mono ?_; rintro e w1 ⟨rfl, nd, rfl⟩) | (go_at_call 57; refine (touchstoneref06_great.calls _ true _ HG.out).mono ?_; rintro e w1 ⟨rfl, nd, rfl⟩) | (go_at_call 58; refine (touchstoneref06_named.calls k s (i : Int) true (n : Int) _ HN.out).mono ?_; rintro e w1 ⟨rfl, nd, rfl⟩))
  refine bodyPost_ret (v := (.tuple #[.agg #[.int .i64 0, .string ⟨#[]⟩, .int .i64 0, .int .i64 0], .int .i64 0])) (by simp [results, Tryz.results32, go_sem]) rfl ⟨rfl, ?_⟩
  repeat (first | refine Below.setCell ?_ (by simp) _ | refine pw_below_drewN ?_ _ | exact (Below.refl _ _).alloc (Nat.le_refl _) _ | refine Below.alloc ?_ (by simp) _)

set_option maxRecDepth 100000 in
set_option maxHeartbeats 1000000 in
theorem one_name_b (s : ByteArray) (i k : Nat) (w : World) (hs : s.size ≤ 1000000) (hlt : i < s.size) (c : Int) (hc : ((s[i]'hlt).toNat : Int) = c) (n : Nat) (hN : touchstoneref06_named.f k s (i : Int) true = some (n : Int)) (hS : touchstoneref06_small.f c = some false) (hG : touchstoneref06_great.f c = some true) (hin : i + n ≤ s.size) (h30 : n ≤ 30) :
    Calls Tryz.prog 32 #[.string s, .int .i64 i] w fun e w' => e = .returned (.tuple #[.agg #[.int .i64 2, .string (s.extract i (i + n)), .int .i64 0, .int .i64 0], .int .i64 (n : Int)]) ∧ Below w.heap.size w w' := by
  have q1 := eq_true (show (0 : Int) ≤ (i : Int) by omega)
  have q2 : ((i : Int) < (s.size : Int)) = True := eq_true (by omega)
  have HN := Aside0.mk hN
  have HS := Aside0.mk hS
  have HG := Aside0.mk hG
  clear hN hS hG
  have q5 := eq_true (show (i : Int) ≤ (i : Int) + n by omega)
  have q6 := eq_true (show (i : Int) + n ≤ (s.size : Int) by omega)
  have e1 : decide ((30 : Int) < (n : Int)) = false := decide_eq_false (by omega)
  go_enter Tryz.func32, Tryz.ntmps32
  go_wp2_with (first | (go_at_call 56; refine (touchstoneref06_small.calls _ false _ HS.out).mono ?_; rintro e w1 ⟨rfl, nd, rfl⟩) | (go_at_call 57; refine (touchstoneref06_great.calls _ true _ HG.out).mono ?_; rintro e w1 ⟨rfl, nd, rfl⟩) | (go_at_call 58; refine (touchstoneref06_named.calls k s (i : Int) true (n : Int) _ HN.out).mono ?_; rintro e w1 ⟨rfl, nd, rfl⟩))
  refine bodyPost_ret (v := (.tuple #[.agg #[.int .i64 2, .string (s.extract i (i + n)), .int .i64 0, .int .i64 0], .int .i64 (n : Int)])) (by simp [results, Tryz.results32, go_sem]) rfl ⟨rfl, ?_⟩
  repeat (first | refine Below.setCell ?_ (by simp) _ | refine pw_below_drewN ?_ _ | exact (Below.refl _ _).alloc (Nat.le_refl _) _ | refine Below.alloc ?_ (by simp) _)

set_option maxRecDepth 100000 in
set_option maxHeartbeats 1000000 in
theorem one_name_c_30 (s : ByteArray) (i k : Nat) (w : World) (hs : s.size ≤ 1000000) (hlt : i < s.size) (c : Int) (hc : ((s[i]'hlt).toNat : Int) = c) (n : Nat) (hN : touchstoneref06_named.f k s (i : Int) true = some (n : Int)) (hS : touchstoneref06_small.f c = some false) (hG : touchstoneref06_great.f c = some false) (h95 : c = 95) (hin : i + n ≤ s.size) (h30 : 30 < n) :
    Calls Tryz.prog 32 #[.string s, .int .i64 i] w fun e w' => e = .returned (.tuple #[.agg #[.int .i64 0, .string ⟨#[]⟩, .int .i64 0, .int .i64 0], .int .i64 0]) ∧ Below w.heap.size w w' := by
  have q1 := eq_true (show (0 : Int) ≤ (i : Int) by omega)
  have q2 : ((i : Int) < (s.size : Int)) = True := eq_true (by omega)
  have HN := Aside0.mk hN
  have HS := Aside0.mk hS
  have HG := Aside0.mk hG
  clear hN hS hG
  have e95 : (c == 95) = true := by rw [h95]; rfl
  clear h95
  have q5 := eq_true (show (i : Int) ≤ (i : Int) + n by omega)
  have q6 := eq_true (show (i : Int) + n ≤ (s.size : Int) by omega)
  have e1 : decide ((30 : Int) < (n : Int)) = true := decide_eq_true (by omega)
  go_enter Tryz.func32, Tryz.ntmps32
  go_wp2_with (first | (go_at_call 56; refine (touchstoneref06_small.calls _ false _ HS.out).mono ?_; rintro e w1 ⟨rfl, nd, rfl⟩) | (go_at_call 57; refine (touchstoneref06_great.calls _ false _ HG.out).mono ?_; rintro e w1 ⟨rfl, nd, rfl⟩) | (go_at_call 58; refine (touchstoneref06_named.calls k s (i : Int) true (n : Int) _ HN.out).mono ?_; rintro e w1 ⟨rfl, nd, rfl⟩))
  refine bodyPost_ret (v := (.tuple #[.agg #[.int .i64 0, .string ⟨#[]⟩, .int .i64 0, .int .i64 0], .int .i64 0])) (by simp [results, Tryz.results32, go_sem]) rfl ⟨rfl, ?_⟩
  repeat (first | refine Below.setCell ?_ (by simp) _ | refine pw_below_drewN ?_ _ | exact (Below.refl _ _).alloc (Nat.le_refl _) _ | refine Below.alloc ?_ (by simp) _)

set_option maxRecDepth 100000 in
set_option maxHeartbeats 1000000 in
theorem one_name_c_u (s : ByteArray) (i k : Nat) (w : World) (hs : s.size ≤ 1000000) (hlt : i < s.size) (c : Int) (hc : ((s[i]'hlt).toNat : Int) = c) (n : Nat) (hN : touchstoneref06_named.f k s (i : Int) true = some (n : Int)) (hS : touchstoneref06_small.f c = some false) (hG : touchstoneref06_great.f c = some false) (h95 : c = 95) (hin : i + n ≤ s.size) (h30 : n ≤ 30) (hU : ((s.extract i (i + n)).toList == ([95] : List UInt8)) = true) :
    Calls Tryz.prog 32 #[.string s, .int .i64 i] w fun e w' => e = .returned (.tuple #[.agg #[.int .i64 8, .string (s.extract i (i + n)), .int .i64 0, .int .i64 0], .int .i64 (n : Int)]) ∧ Below w.heap.size w w' := by
  have q1 := eq_true (show (0 : Int) ≤ (i : Int) by omega)
  have q2 : ((i : Int) < (s.size : Int)) = True := eq_true (by omega)
  have HN := Aside0.mk hN
  have HS := Aside0.mk hS
  have HG := Aside0.mk hG
  clear hN hS hG
  have e95 : (c == 95) = true := by rw [h95]; rfl
  clear h95
  have q5 := eq_true (show (i : Int) ≤ (i : Int) + n by omega)
  have q6 := eq_true (show (i : Int) + n ≤ (s.size : Int) by omega)
  have e1 : decide ((30 : Int) < (n : Int)) = false := decide_eq_false (by omega)
  go_enter Tryz.func32, Tryz.ntmps32
  go_wp2_with (first | (go_at_call 56; refine (touchstoneref06_small.calls _ false _ HS.out).mono ?_; rintro e w1 ⟨rfl, nd, rfl⟩) | (go_at_call 57; refine (touchstoneref06_great.calls _ false _ HG.out).mono ?_; rintro e w1 ⟨rfl, nd, rfl⟩) | (go_at_call 58; refine (touchstoneref06_named.calls k s (i : Int) true (n : Int) _ HN.out).mono ?_; rintro e w1 ⟨rfl, nd, rfl⟩))
  refine bodyPost_ret (v := (.tuple #[.agg #[.int .i64 8, .string (s.extract i (i + n)), .int .i64 0, .int .i64 0], .int .i64 (n : Int)])) (by simp [results, Tryz.results32, go_sem]) rfl ⟨rfl, ?_⟩
  repeat (first | refine Below.setCell ?_ (by simp) _ | refine pw_below_drewN ?_ _ | exact (Below.refl _ _).alloc (Nat.le_refl _) _ | refine Below.alloc ?_ (by simp) _)

set_option maxRecDepth 100000 in
set_option maxHeartbeats 1000000 in
theorem one_name_c_7 (s : ByteArray) (i k : Nat) (w : World) (hs : s.size ≤ 1000000) (hlt : i < s.size) (c : Int) (hc : ((s[i]'hlt).toNat : Int) = c) (n : Nat) (hN : touchstoneref06_named.f k s (i : Int) true = some (n : Int)) (hS : touchstoneref06_small.f c = some false) (hG : touchstoneref06_great.f c = some false) (h95 : c = 95) (hin : i + n ≤ s.size) (h30 : n ≤ 30) (hU : ((s.extract i (i + n)).toList == ([95] : List UInt8)) = false) (kws : List ByteArray) (hK : touchstoneref06_Keywords.f = some kws) (hI : touchstoneref06_In.f k (s.extract i (i + n)) kws = some true) :
    Calls Tryz.prog 32 #[.string s, .int .i64 i] w fun e w' => e = .returned (.tuple #[.agg #[.int .i64 7, .string (s.extract i (i + n)), .int .i64 0, .int .i64 0], .int .i64 (n : Int)]) ∧ Below w.heap.size w w' := by
  have q1 := eq_true (show (0 : Int) ≤ (i : Int) by omega)
  have q2 : ((i : Int) < (s.size : Int)) = True := eq_true (by omega)
  have HN := Aside0.mk hN
  have HK := Aside0.mk hK
  have HI := Aside0.mk hI
  have HS := Aside0.mk hS
  have HG := Aside0.mk hG
  clear hN hK hI hS hG
  have e95 : (c == 95) = true := by rw [h95]; rfl
  clear h95
  have q5 := eq_true (show (i : Int) ≤ (i : Int) + n by omega)
  have q6 := eq_true (show (i : Int) + n ≤ (s.size : Int) by omega)
  have e1 : decide ((30 : Int) < (n : Int)) = false := decide_eq_false (by omega)
  go_enter Tryz.func32, Tryz.ntmps32
  go_wp2_with (first | (go_at_call 56; refine (touchstoneref06_small.calls _ false _ HS.out).mono ?_; rintro e w1 ⟨rfl, nd, rfl⟩) | (go_at_call 57; refine (touchstoneref06_great.calls _ false _ HG.out).mono ?_; rintro e w1 ⟨rfl, nd, rfl⟩) | (go_at_call 58; refine (touchstoneref06_named.calls k s (i : Int) true (n : Int) _ HN.out).mono ?_; rintro e w1 ⟨rfl, nd, rfl⟩) | (go_at_call 17; refine (touchstoneref06_Keywords.calls kws _ HK.out).mono ?_; rintro e w1 ⟨v0, rfl, hR, hb⟩; obtain ⟨Ak, ck, rfl⟩ := Kd.R_slice hR; have HR := Aside0.mk hR; clear hR; have HB1 : Aside0 (Box4 w w1 (.int .i64 0) (.string ⟨#[]⟩) (.int .i64 0) (.int .i64 0)) := ⟨by first | exact Box4.start hb | exact Box4.start1 hb | exact Box4.start2 hb | exact Box4.start3 hb | exact Box4.start4 hb | exact Box4.start5 hb | exact Box4.start6 hb⟩; clear hb; obtain ⟨m10, m11, m12, m13, g10, g11, g12, g13, lt1, _⟩ := HB1.out) | (go_at_call 16; refine (touchstoneref06_In.calls k _ Ak ck kws true _ (Kd.R_reads' HR.out).2.2 (Kd.R_reads' HR.out).2.1 HI.out).mono ?_; rintro e w2 ⟨rfl, nd, rfl⟩))
  refine bodyPost_ret (v := (.tuple #[.agg #[.int .i64 7, .string (s.extract i (i + n)), .int .i64 0, .int .i64 0], .int .i64 (n : Int)])) (by simp [results, Tryz.results32, go_sem, m10, m11, m12, m13]) rfl ⟨rfl, ?_⟩
  repeat (first | refine Below.setCell ?_ (by simp) _ | refine pw_below_drewN ?_ _ | exact HB1.out.bel)

set_option maxRecDepth 100000 in
set_option maxHeartbeats 1000000 in
theorem one_name_c_1 (s : ByteArray) (i k : Nat) (w : World) (hs : s.size ≤ 1000000) (hlt : i < s.size) (c : Int) (hc : ((s[i]'hlt).toNat : Int) = c) (n : Nat) (hN : touchstoneref06_named.f k s (i : Int) true = some (n : Int)) (hS : touchstoneref06_small.f c = some false) (hG : touchstoneref06_great.f c = some false) (h95 : c = 95) (hin : i + n ≤ s.size) (h30 : n ≤ 30) (hU : ((s.extract i (i + n)).toList == ([95] : List UInt8)) = false) (kws : List ByteArray) (hK : touchstoneref06_Keywords.f = some kws) (hI : touchstoneref06_In.f k (s.extract i (i + n)) kws = some false) :
    Calls Tryz.prog 32 #[.string s, .int .i64 i] w fun e w' => e = .returned (.tuple #[.agg #[.int .i64 1, .string (s.extract i (i + n)), .int .i64 0, .int .i64 0], .int .i64 (n : Int)]) ∧ Below w.heap.size w w' := by
  have q1 := eq_true (show (0 : Int) ≤ (i : Int) by omega)
  have q2 : ((i : Int) < (s.size : Int)) = True := eq_true (by omega)
  have HN := Aside0.mk hN
  have HK := Aside0.mk hK
  have HI := Aside0.mk hI
  have HS := Aside0.mk hS
  have HG := Aside0.mk hG
  clear hN hK hI hS hG
  have e95 : (c == 95) = true := by rw [h95]; rfl
  clear h95
  have q5 := eq_true (show (i : Int) ≤ (i : Int) + n by omega)
  have q6 := eq_true (show (i : Int) + n ≤ (s.size : Int) by omega)
  have e1 : decide ((30 : Int) < (n : Int)) = false := decide_eq_false (by omega)
  go_enter Tryz.func32, Tryz.ntmps32
  go_wp2_with (first | (go_at_call 56; refine (touchstoneref06_small.calls _ false _ HS.out).mono ?_; rintro e w1 ⟨rfl, nd, rfl⟩) | (go_at_call 57; refine (touchstoneref06_great.calls _ false _ HG.out).mono ?_; rintro e w1 ⟨rfl, nd, rfl⟩) | (go_at_call 58; refine (touchstoneref06_named.calls k s (i : Int) true (n : Int) _ HN.out).mono ?_; rintro e w1 ⟨rfl, nd, rfl⟩) | (go_at_call 17; refine (touchstoneref06_Keywords.calls kws _ HK.out).mono ?_; rintro e w1 ⟨v0, rfl, hR, hb⟩; obtain ⟨Ak, ck, rfl⟩ := Kd.R_slice hR; have HR := Aside0.mk hR; clear hR; have HB1 : Aside0 (Box4 w w1 (.int .i64 0) (.string ⟨#[]⟩) (.int .i64 0) (.int .i64 0)) := ⟨by first | exact Box4.start hb | exact Box4.start1 hb | exact Box4.start2 hb | exact Box4.start3 hb | exact Box4.start4 hb | exact Box4.start5 hb | exact Box4.start6 hb⟩; clear hb; obtain ⟨m10, m11, m12, m13, g10, g11, g12, g13, lt1, _⟩ := HB1.out) | (go_at_call 16; refine (touchstoneref06_In.calls k _ Ak ck kws false _ (Kd.R_reads' HR.out).2.2 (Kd.R_reads' HR.out).2.1 HI.out).mono ?_; rintro e w2 ⟨rfl, nd, rfl⟩))
  refine bodyPost_ret (v := (.tuple #[.agg #[.int .i64 1, .string (s.extract i (i + n)), .int .i64 0, .int .i64 0], .int .i64 (n : Int)])) (by simp [results, Tryz.results32, go_sem, m10, m11, m12, m13]) rfl ⟨rfl, ?_⟩
  repeat (first | refine Below.setCell ?_ (by simp) _ | refine pw_below_drewN ?_ _ | exact HB1.out.bel)

set_option maxRecDepth 100000 in
set_option maxHeartbeats 1000000 in
theorem one_version (s : ByteArray) (i k : Nat) (w : World) (hs : s.size ≤ 1000000) (hlt : i < s.size) (c : Int) (hc : ((s[i]'hlt).toNat : Int) = c) (hS : touchstoneref06_small.f c = some false) (hG : touchstoneref06_great.f c = some false) (h95 : c ≠ 95) (h39 : c ≠ 39) (h34 : c ≠ 34) (h45 : c ≠ 45) (hD : touchstoneref06_digit.f c = some true) (v : Nat) (hV : touchstoneref06_version.f k s (i : Int) = some (v : Int)) (h0 : 0 < v) (hin : i + v ≤ s.size) :
    Calls Tryz.prog 32 #[.string s, .int .i64 i] w fun e w' => e = .returned (.tuple #[.agg #[.int .i64 6, .string (s.extract i (i + v)), .int .i64 0, .int .i64 0], .int .i64 (v : Int)]) ∧ Below w.heap.size w w' := by
  have q1 := eq_true (show (0 : Int) ≤ (i : Int) by omega)
  have q2 : ((i : Int) < (s.size : Int)) = True := eq_true (by omega)
  have HS := Aside0.mk hS
  have HG := Aside0.mk hG
  have HD := Aside0.mk hD
  have HV := Aside0.mk hV
  clear hS hG hD hV
  have e95 : (c == 95) = false := by rw [beq_eq_false_iff_ne]; exact h95
  have e39 : (c == 39) = false := by rw [beq_eq_false_iff_ne]; exact h39
  have e34 : (c == 34) = false := by rw [beq_eq_false_iff_ne]; exact h34
  have e45 : (c == 45) = false := by rw [beq_eq_false_iff_ne]; exact h45
  clear h95 h39 h34 h45
  have q5 := eq_true (show (i : Int) ≤ (i : Int) + v by omega)
  have q6 := eq_true (show (i : Int) + v ≤ (s.size : Int) by omega)
  have e1 : decide ((0 : Int) < (v : Int)) = true := decide_eq_true (by omega)
  go_enter Tryz.func32, Tryz.ntmps32
  go_wp2_with (first | (go_at_call 56; refine (touchstoneref06_small.calls _ false _ HS.out).mono ?_; rintro e w1 ⟨rfl, nd, rfl⟩) | (go_at_call 57; refine (touchstoneref06_great.calls _ false _ HG.out).mono ?_; rintro e w1 ⟨rfl, nd, rfl⟩) | (go_at_call 60; refine (touchstoneref06_digit.calls _ true _ HD.out).mono ?_; rintro e w1 ⟨rfl, nd, rfl⟩) | (go_at_call 61; refine (touchstoneref06_version.calls k s (i : Int) (v : Int) _ HV.out).mono ?_; first | (rintro e w1 ⟨rfl, hb⟩; have HB1 : Aside0 (Box4 w w1 (.int .i64 0) (.string ⟨#[]⟩) (.int .i64 0) (.int .i64 0)) := ⟨by first | exact Box4.start hb | exact Box4.start1 hb | exact Box4.start2 hb | exact Box4.start3 hb | exact Box4.start4 hb | exact Box4.start5 hb | exact Box4.start6 hb⟩; clear hb) | (rintro e w2 ⟨rfl, hb⟩; have HB2 := Aside0.mk (HB1.out.step hb); clear hb; obtain ⟨m20, m21, m22, m23, g20, g21, g22, g23, lt2, _⟩ := HB2.out)))
  refine bodyPost_ret (v := (.tuple #[.agg #[.int .i64 6, .string (s.extract i (i + v)), .int .i64 0, .int .i64 0], .int .i64 (v : Int)])) (by simp [results, Tryz.results32, go_sem, m20, m21, m22, m23]) rfl ⟨rfl, ?_⟩
  repeat (first | refine Below.setCell ?_ (by simp) _ | refine pw_below_drewN ?_ _ | exact HB2.out.bel)

set_option maxRecDepth 100000 in
set_option maxHeartbeats 1000000 in
theorem one_int_18 (s : ByteArray) (i k : Nat) (w : World) (hs : s.size ≤ 1000000) (hlt : i < s.size) (c : Int) (hc : ((s[i]'hlt).toNat : Int) = c) (hS : touchstoneref06_small.f c = some false) (hG : touchstoneref06_great.f c = some false) (h95 : c ≠ 95) (h39 : c ≠ 39) (h34 : c ≠ 34) (h45 : c ≠ 45) (hD : touchstoneref06_digit.f c = some true) (hV : touchstoneref06_version.f k s (i : Int) = some 0) (n : Nat) (hN : touchstoneref06_digits.f k s (i : Int) = some (n : Int)) (h18 : 18 < n) (hn : n ≤ s.size) :
    Calls Tryz.prog 32 #[.string s, .int .i64 i] w fun e w' => e = .returned (.tuple #[.agg #[.int .i64 0, .string ⟨#[]⟩, .int .i64 0, .int .i64 0], .int .i64 0]) ∧ Below w.heap.size w w' := by
  have q1 := eq_true (show (0 : Int) ≤ (i : Int) by omega)
  have q2 : ((i : Int) < (s.size : Int)) = True := eq_true (by omega)
  have HS := Aside0.mk hS
  have HG := Aside0.mk hG
  have HD := Aside0.mk hD
  have HV := Aside0.mk hV
  have HN := Aside0.mk hN
  clear hS hG hD hV hN
  have e95 : (c == 95) = false := by rw [beq_eq_false_iff_ne]; exact h95
  have e39 : (c == 39) = false := by rw [beq_eq_false_iff_ne]; exact h39
  have e34 : (c == 34) = false := by rw [beq_eq_false_iff_ne]; exact h34
  have e45 : (c == 45) = false := by rw [beq_eq_false_iff_ne]; exact h45
  clear h95 h39 h34 h45
  have e0 : ((n : Int) == 0) = false := by first | (rw [beq_eq_false_iff_ne]; omega) | (rw [beq_iff_eq]; omega)
  have e18 : decide ((18 : Int) < (n : Int)) = true := by first | exact decide_eq_true (by omega) | exact decide_eq_false (by omega)
  go_enter Tryz.func32, Tryz.ntmps32
  go_wp2_with (first | (go_at_call 56; refine (touchstoneref06_small.calls _ false _ HS.out).mono ?_; rintro e w1 ⟨rfl, nd, rfl⟩) | (go_at_call 57; refine (touchstoneref06_great.calls _ false _ HG.out).mono ?_; rintro e w1 ⟨rfl, nd, rfl⟩) | (go_at_call 60; refine (touchstoneref06_digit.calls _ true _ HD.out).mono ?_; rintro e w1 ⟨rfl, nd, rfl⟩) | (go_at_call 61; refine (touchstoneref06_version.calls k s (i : Int) 0 _ HV.out).mono ?_; rintro e w1 ⟨rfl, hb⟩; have HB1 : Aside0 (Box4 w w1 (.int .i64 0) (.string ⟨#[]⟩) (.int .i64 0) (.int .i64 0)) := ⟨by first | exact Box4.start hb | exact Box4.start1 hb | exact Box4.start2 hb | exact Box4.start3 hb | exact Box4.start4 hb | exact Box4.start5 hb | exact Box4.start6 hb⟩; clear hb; obtain ⟨m10, m11, m12, m13, g10, g11, g12, g13, lt1, _⟩ := HB1.out) | (go_at_call 62; refine (touchstoneref06_digits.calls k s (i : Int) (n : Int) _ HN.out).mono ?_; rintro e w1 ⟨rfl, nd, rfl⟩))
  refine bodyPost_ret (v := (.tuple #[.agg #[.int .i64 0, .string ⟨#[]⟩, .int .i64 0, .int .i64 0], .int .i64 0])) (by simp [results, Tryz.results32, go_sem, m10, m11, m12, m13]) rfl ⟨rfl, ?_⟩
  repeat (first | refine Below.setCell ?_ (by simp) _ | refine pw_below_drewN ?_ _ | exact HB1.out.bel)

set_option maxRecDepth 100000 in
set_option maxHeartbeats 1000000 in
theorem one_int_48 (s : ByteArray) (i k : Nat) (w : World) (hs : s.size ≤ 1000000) (hlt : i < s.size) (c : Int) (hc : ((s[i]'hlt).toNat : Int) = c) (hS : touchstoneref06_small.f c = some false) (hG : touchstoneref06_great.f c = some false) (h95 : c ≠ 95) (h39 : c ≠ 39) (h34 : c ≠ 34) (h45 : c ≠ 45) (hD : touchstoneref06_digit.f c = some true) (hV : touchstoneref06_version.f k s (i : Int) = some 0) (n : Nat) (hN : touchstoneref06_digits.f k s (i : Int) = some (n : Int)) (h18 : n ≤ 18) (h1 : 1 < n) (h48 : c = 48) :
    Calls Tryz.prog 32 #[.string s, .int .i64 i] w fun e w' => e = .returned (.tuple #[.agg #[.int .i64 0, .string ⟨#[]⟩, .int .i64 0, .int .i64 0], .int .i64 0]) ∧ Below w.heap.size w w' := by
  have q1 := eq_true (show (0 : Int) ≤ (i : Int) by omega)
  have q2 : ((i : Int) < (s.size : Int)) = True := eq_true (by omega)
  have HS := Aside0.mk hS
  have HG := Aside0.mk hG
  have HD := Aside0.mk hD
  have HV := Aside0.mk hV
  have HN := Aside0.mk hN
  clear hS hG hD hV hN
  have e95 : (c == 95) = false := by rw [beq_eq_false_iff_ne]; exact h95
  have e39 : (c == 39) = false := by rw [beq_eq_false_iff_ne]; exact h39
  have e34 : (c == 34) = false := by rw [beq_eq_false_iff_ne]; exact h34
  have e45 : (c == 45) = false := by rw [beq_eq_false_iff_ne]; exact h45
  clear h95 h39 h34 h45
  have e0 : ((n : Int) == 0) = false := by first | (rw [beq_eq_false_iff_ne]; omega) | (rw [beq_iff_eq]; omega)
  have e18 : decide ((18 : Int) < (n : Int)) = false := by first | exact decide_eq_true (by omega) | exact decide_eq_false (by omega)
  have e1 : decide ((1 : Int) < (n : Int)) = true := by first | exact decide_eq_true (by omega) | exact decide_eq_false (by omega)
  have e48 : (c == 48) = true := by first | (rw [beq_eq_false_iff_ne]; exact h48) | (rw [beq_iff_eq]; exact h48)
  clear h48
  go_enter Tryz.func32, Tryz.ntmps32
  go_wp2_with (first | (go_at_call 56; refine (touchstoneref06_small.calls _ false _ HS.out).mono ?_; rintro e w1 ⟨rfl, nd, rfl⟩) | (go_at_call 57; refine (touchstoneref06_great.calls _ false _ HG.out).mono ?_; rintro e w1 ⟨rfl, nd, rfl⟩) | (go_at_call 60; refine (touchstoneref06_digit.calls _ true _ HD.out).mono ?_; rintro e w1 ⟨rfl, nd, rfl⟩) | (go_at_call 61; refine (touchstoneref06_version.calls k s (i : Int) 0 _ HV.out).mono ?_; rintro e w1 ⟨rfl, hb⟩; have HB1 : Aside0 (Box4 w w1 (.int .i64 0) (.string ⟨#[]⟩) (.int .i64 0) (.int .i64 0)) := ⟨by first | exact Box4.start hb | exact Box4.start1 hb | exact Box4.start2 hb | exact Box4.start3 hb | exact Box4.start4 hb | exact Box4.start5 hb | exact Box4.start6 hb⟩; clear hb; obtain ⟨m10, m11, m12, m13, g10, g11, g12, g13, lt1, _⟩ := HB1.out) | (go_at_call 62; refine (touchstoneref06_digits.calls k s (i : Int) (n : Int) _ HN.out).mono ?_; rintro e w1 ⟨rfl, nd, rfl⟩))
  refine bodyPost_ret (v := (.tuple #[.agg #[.int .i64 0, .string ⟨#[]⟩, .int .i64 0, .int .i64 0], .int .i64 0])) (by simp [results, Tryz.results32, go_sem, m10, m11, m12, m13]) rfl ⟨rfl, ?_⟩
  repeat (first | refine Below.setCell ?_ (by simp) _ | refine pw_below_drewN ?_ _ | exact HB1.out.bel)

set_option maxRecDepth 100000 in
set_option maxHeartbeats 1000000 in
theorem one_int_one (s : ByteArray) (i k : Nat) (w : World) (hs : s.size ≤ 1000000) (hlt : i < s.size) (c : Int) (hc : ((s[i]'hlt).toNat : Int) = c) (hS : touchstoneref06_small.f c = some false) (hG : touchstoneref06_great.f c = some false) (h95 : c ≠ 95) (h39 : c ≠ 39) (h34 : c ≠ 34) (h45 : c ≠ 45) (hD : touchstoneref06_digit.f c = some true) (hV : touchstoneref06_version.f k s (i : Int) = some 0) (hN : touchstoneref06_digits.f k s (i : Int) = some 1) (hin : i + 1 ≤ s.size) (x : Int) (hX : touchstoneref06_number.f k (s.extract i (i + 1)) = some x) :
    Calls Tryz.prog 32 #[.string s, .int .i64 i] w fun e w' => e = .returned (.tuple #[.agg #[.int .i64 4, .string ⟨#[]⟩, .int .i64 x, .int .i64 0], .int .i64 1]) ∧ Below w.heap.size w w' := by
  have q1 := eq_true (show (0 : Int) ≤ (i : Int) by omega)
  have q2 : ((i : Int) < (s.size : Int)) = True := eq_true (by omega)
  have HS := Aside0.mk hS
  have HG := Aside0.mk hG
  have HD := Aside0.mk hD
  have HV := Aside0.mk hV
  have HN := Aside0.mk hN
  have HX := Aside0.mk hX
  clear hS hG hD hV hN hX
  have e95 : (c == 95) = false := by rw [beq_eq_false_iff_ne]; exact h95
  have e39 : (c == 39) = false := by rw [beq_eq_false_iff_ne]; exact h39
  have e34 : (c == 34) = false := by rw [beq_eq_false_iff_ne]; exact h34
  have e45 : (c == 45) = false := by rw [beq_eq_false_iff_ne]; exact h45
  clear h95 h39 h34 h45
  have q5 := eq_true (show (i : Int) ≤ (i : Int) + 1 by omega)
  have q6 := eq_true (show (i : Int) + 1 ≤ (s.size : Int) by omega)
  have e7 : (i : Int) + 1 - i = 1 := by omega
  go_enter Tryz.func32, Tryz.ntmps32
  go_wp2_with (first | (go_at_call 56; refine (touchstoneref06_small.calls _ false _ HS.out).mono ?_; rintro e w1 ⟨rfl, nd, rfl⟩) | (go_at_call 57; refine (touchstoneref06_great.calls _ false _ HG.out).mono ?_; rintro e w1 ⟨rfl, nd, rfl⟩) | (go_at_call 60; refine (touchstoneref06_digit.calls _ true _ HD.out).mono ?_; rintro e w1 ⟨rfl, nd, rfl⟩) | (go_at_call 61; refine (touchstoneref06_version.calls k s (i : Int) 0 _ HV.out).mono ?_; rintro e w1 ⟨rfl, hb⟩; have HB1 : Aside0 (Box4 w w1 (.int .i64 0) (.string ⟨#[]⟩) (.int .i64 0) (.int .i64 0)) := ⟨by first | exact Box4.start hb | exact Box4.start1 hb | exact Box4.start2 hb | exact Box4.start3 hb | exact Box4.start4 hb | exact Box4.start5 hb | exact Box4.start6 hb⟩; clear hb; obtain ⟨m10, m11, m12, m13, g10, g11, g12, g13, lt1, _⟩ := HB1.out) | (go_at_call 62; refine (touchstoneref06_digits.calls k s (i : Int) 1 _ HN.out).mono ?_; rintro e w1 ⟨rfl, nd, rfl⟩) | (go_at_call 63; refine (touchstoneref06_number.calls k (s.extract i (i + 1)) x _ HX.out).mono ?_; rintro e w1 ⟨rfl, nd, rfl⟩))
  refine bodyPost_ret (v := (.tuple #[.agg #[.int .i64 4, .string ⟨#[]⟩, .int .i64 x, .int .i64 0], .int .i64 1])) (by simp [results, Tryz.results32, go_sem, m10, m11, m12, m13]) rfl ⟨rfl, ?_⟩
  repeat (first | refine Below.setCell ?_ (by simp) _ | refine pw_below_drewN ?_ _ | exact HB1.out.bel)

set_option maxRecDepth 100000 in
set_option maxHeartbeats 1000000 in
theorem one_int_more (s : ByteArray) (i k : Nat) (w : World) (hs : s.size ≤ 1000000) (hlt : i < s.size) (c : Int) (hc : ((s[i]'hlt).toNat : Int) = c) (hS : touchstoneref06_small.f c = some false) (hG : touchstoneref06_great.f c = some false) (h95 : c ≠ 95) (h39 : c ≠ 39) (h34 : c ≠ 34) (h45 : c ≠ 45) (hD : touchstoneref06_digit.f c = some true) (hV : touchstoneref06_version.f k s (i : Int) = some 0) (n : Nat) (hN : touchstoneref06_digits.f k s (i : Int) = some (n : Int)) (h1 : 1 < n) (h18 : n ≤ 18) (h48 : c ≠ 48) (hin : i + n ≤ s.size) (x : Int) (hX : touchstoneref06_number.f k (s.extract i (i + n)) = some x) :
    Calls Tryz.prog 32 #[.string s, .int .i64 i] w fun e w' => e = .returned (.tuple #[.agg #[.int .i64 4, .string ⟨#[]⟩, .int .i64 x, .int .i64 0], .int .i64 (n : Int)]) ∧ Below w.heap.size w w' := by
  have q1 := eq_true (show (0 : Int) ≤ (i : Int) by omega)
  have q2 : ((i : Int) < (s.size : Int)) = True := eq_true (by omega)
  have HS := Aside0.mk hS
  have HG := Aside0.mk hG
  have HD := Aside0.mk hD
  have HV := Aside0.mk hV
  have HN := Aside0.mk hN
  have HX := Aside0.mk hX
  clear hS hG hD hV hN hX
  have e95 : (c == 95) = false := by rw [beq_eq_false_iff_ne]; exact h95
  have e39 : (c == 39) = false := by rw [beq_eq_false_iff_ne]; exact h39
  have e34 : (c == 34) = false := by rw [beq_eq_false_iff_ne]; exact h34
  have e45 : (c == 45) = false := by rw [beq_eq_false_iff_ne]; exact h45
  clear h95 h39 h34 h45
  have e0 : ((n : Int) == 0) = false := by first | (rw [beq_eq_false_iff_ne]; omega) | (rw [beq_iff_eq]; omega)
  have e18 : decide ((18 : Int) < (n : Int)) = false := by first | exact decide_eq_true (by omega) | exact decide_eq_false (by omega)
  have e1 : decide ((1 : Int) < (n : Int)) = true := by first | exact decide_eq_true (by omega) | exact decide_eq_false (by omega)
  have e48 : (c == 48) = false := by first | (rw [beq_eq_false_iff_ne]; exact h48) | (rw [beq_iff_eq]; exact h48)
  clear h48
  have q5 := eq_true (show (i : Int) ≤ (i : Int) + n by omega)
  have q6 := eq_true (show (i : Int) + n ≤ (s.size : Int) by omega)
  have e7 : (i : Int) + n - i = n := by omega
  go_enter Tryz.func32, Tryz.ntmps32
  go_wp2_with (first | (go_at_call 56; refine (touchstoneref06_small.calls _ false _ HS.out).mono ?_; rintro e w1 ⟨rfl, nd, rfl⟩) | (go_at_call 57; refine (touchstoneref06_great.calls _ false _ HG.out).mono ?_; rintro e w1 ⟨rfl, nd, rfl⟩) | (go_at_call 60; refine (touchstoneref06_digit.calls _ true _ HD.out).mono ?_; rintro e w1 ⟨rfl, nd, rfl⟩) | (go_at_call 61; refine (touchstoneref06_version.calls k s (i : Int) 0 _ HV.out).mono ?_; rintro e w1 ⟨rfl, hb⟩; have HB1 : Aside0 (Box4 w w1 (.int .i64 0) (.string ⟨#[]⟩) (.int .i64 0) (.int .i64 0)) := ⟨by first | exact Box4.start hb | exact Box4.start1 hb | exact Box4.start2 hb | exact Box4.start3 hb | exact Box4.start4 hb | exact Box4.start5 hb | exact Box4.start6 hb⟩; clear hb; obtain ⟨m10, m11, m12, m13, g10, g11, g12, g13, lt1, _⟩ := HB1.out) | (go_at_call 62; refine (touchstoneref06_digits.calls k s (i : Int) (n : Int) _ HN.out).mono ?_; rintro e w1 ⟨rfl, nd, rfl⟩) | (go_at_call 63; refine (touchstoneref06_number.calls k (s.extract i (i + n)) x _ HX.out).mono ?_; rintro e w1 ⟨rfl, nd, rfl⟩))
  refine bodyPost_ret (v := (.tuple #[.agg #[.int .i64 4, .string ⟨#[]⟩, .int .i64 x, .int .i64 0], .int .i64 (n : Int)])) (by simp [results, Tryz.results32, go_sem, m10, m11, m12, m13]) rfl ⟨rfl, ?_⟩
  repeat (first | refine Below.setCell ?_ (by simp) _ | refine pw_below_drewN ?_ _ | exact HB1.out.bel)

set_option maxRecDepth 100000 in
set_option maxHeartbeats 1000000 in
theorem one_neg_end (s : ByteArray) (i k : Nat) (w : World) (hs : s.size ≤ 1000000) (hlt : i < s.size) (hc : ((s[i]'hlt).toNat : Int) = 45) (hend : i + 1 = s.size) (hN : touchstoneref06_digits.f k s ((i : Int) + 1) = some 0) :
    Calls Tryz.prog 32 #[.string s, .int .i64 i] w fun e w' => e = .returned (.tuple #[.agg #[.int .i64 0, .string ⟨#[]⟩, .int .i64 0, .int .i64 0], .int .i64 0]) ∧ Below w.heap.size w w' := by
  have q1 := eq_true (show (0 : Int) ≤ (i : Int) by omega)
  have q2 : ((i : Int) < (s.size : Int)) = True := eq_true (by omega)
  have HN := Aside0.mk hN
  clear hN
  have q4 : ((i : Int) + 1 < (s.size : Int)) = False := eq_false (by omega)
  have d4 : decide ((i : Int) + 1 < (s.size : Int)) = false := decide_eq_false (by omega)
  go_enter Tryz.func32, Tryz.ntmps32
  go_wp2_with (first | (go_at_call 56; refine (touchstoneref06_small.calls 45 false _ rfl).mono ?_; rintro e w1 ⟨rfl, nd, rfl⟩) | (go_at_call 57; refine (touchstoneref06_great.calls 45 false _ rfl).mono ?_; rintro e w1 ⟨rfl, nd, rfl⟩) | (go_at_call 60; refine (touchstoneref06_digit.calls 45 false _ rfl).mono ?_; rintro e w1 ⟨rfl, nd, rfl⟩) | (go_at_call 62; refine (touchstoneref06_digits.calls k s ((i : Int) + 1) 0 _ HN.out).mono ?_; rintro e w1 ⟨rfl, nd, rfl⟩))
  refine bodyPost_ret (v := (.tuple #[.agg #[.int .i64 0, .string ⟨#[]⟩, .int .i64 0, .int .i64 0], .int .i64 0])) (by simp [results, Tryz.results32, go_sem]) rfl ⟨rfl, ?_⟩
  repeat (first | refine Below.setCell ?_ (by simp) _ | refine pw_below_drewN ?_ _ | exact (Below.refl _ _).alloc (Nat.le_refl _) _ | refine Below.alloc ?_ (by simp) _)

set_option maxRecDepth 100000 in
set_option maxHeartbeats 1000000 in
theorem one_neg_0 (s : ByteArray) (i k : Nat) (w : World) (hs : s.size ≤ 1000000) (hlt : i < s.size) (hc : ((s[i]'hlt).toNat : Int) = 45) (hlt1 : i + 1 < s.size) (b : Int) (hb1 : ((s[i + 1]'hlt1).toNat : Int) = b) (h62 : b ≠ 62) (hN : touchstoneref06_digits.f k s ((i : Int) + 1) = some 0) :
    Calls Tryz.prog 32 #[.string s, .int .i64 i] w fun e w' => e = .returned (.tuple #[.agg #[.int .i64 0, .string ⟨#[]⟩, .int .i64 0, .int .i64 0], .int .i64 0]) ∧ Below w.heap.size w w' := by
  have q1 := eq_true (show (0 : Int) ≤ (i : Int) by omega)
  have q2 : ((i : Int) < (s.size : Int)) = True := eq_true (by omega)
  have HN := Aside0.mk hN
  clear hN
  have q3 := eq_true (show (0 : Int) ≤ (i : Int) + 1 by omega)
  have q4 : ((i : Int) + 1 < (s.size : Int)) = True := eq_true (by omega)
  have e62 : (b == 62) = false := by rw [beq_eq_false_iff_ne]; exact h62
  clear h62
  go_enter Tryz.func32, Tryz.ntmps32
  go_wp2_with (first | (go_at_call 56; refine (touchstoneref06_small.calls 45 false _ rfl).mono ?_; rintro e w1 ⟨rfl, nd, rfl⟩) | (go_at_call 57; refine (touchstoneref06_great.calls 45 false _ rfl).mono ?_; rintro e w1 ⟨rfl, nd, rfl⟩) | (go_at_call 60; refine (touchstoneref06_digit.calls 45 false _ rfl).mono ?_; rintro e w1 ⟨rfl, nd, rfl⟩) | (go_at_call 62; refine (touchstoneref06_digits.calls k s ((i : Int) + 1) 0 _ HN.out).mono ?_; rintro e w1 ⟨rfl, nd, rfl⟩))
  refine bodyPost_ret (v := (.tuple #[.agg #[.int .i64 0, .string ⟨#[]⟩, .int .i64 0, .int .i64 0], .int .i64 0])) (by simp [results, Tryz.results32, go_sem]) rfl ⟨rfl, ?_⟩
  repeat (first | refine Below.setCell ?_ (by simp) _ | refine pw_below_drewN ?_ _ | exact (Below.refl _ _).alloc (Nat.le_refl _) _ | refine Below.alloc ?_ (by simp) _)

set_option maxRecDepth 100000 in
set_option maxHeartbeats 1000000 in
theorem one_neg_18 (s : ByteArray) (i k : Nat) (w : World) (hs : s.size ≤ 1000000) (hlt : i < s.size) (hc : ((s[i]'hlt).toNat : Int) = 45) (hlt1 : i + 1 < s.size) (b : Int) (hb1 : ((s[i + 1]'hlt1).toNat : Int) = b) (h62 : b ≠ 62) (n : Nat) (hN : touchstoneref06_digits.f k s ((i : Int) + 1) = some (n : Int)) (h18 : 18 < n) (hn : n ≤ s.size) :
    Calls Tryz.prog 32 #[.string s, .int .i64 i] w fun e w' => e = .returned (.tuple #[.agg #[.int .i64 0, .string ⟨#[]⟩, .int .i64 0, .int .i64 0], .int .i64 0]) ∧ Below w.heap.size w w' := by
  have q1 := eq_true (show (0 : Int) ≤ (i : Int) by omega)
  have q2 : ((i : Int) < (s.size : Int)) = True := eq_true (by omega)
  have HN := Aside0.mk hN
  clear hN
  have q3 := eq_true (show (0 : Int) ≤ (i : Int) + 1 by omega)
  have q4 : ((i : Int) + 1 < (s.size : Int)) = True := eq_true (by omega)
  have e62 : (b == 62) = false := by rw [beq_eq_false_iff_ne]; exact h62
  clear h62
  have e0 : ((n : Int) == 0) = false := by first | (rw [beq_eq_false_iff_ne]; omega) | (rw [beq_iff_eq]; omega)
  have e18 : decide ((18 : Int) < (n : Int)) = true := by first | exact decide_eq_true (by omega) | exact decide_eq_false (by omega)
  go_enter Tryz.func32, Tryz.ntmps32
  go_wp2_with (first | (go_at_call 56; refine (touchstoneref06_small.calls 45 false _ rfl).mono ?_; rintro e w1 ⟨rfl, nd, rfl⟩) | (go_at_call 57; refine (touchstoneref06_great.calls 45 false _ rfl).mono ?_; rintro e w1 ⟨rfl, nd, rfl⟩) | (go_at_call 60; refine (touchstoneref06_digit.calls 45 false _ rfl).mono ?_; rintro e w1 ⟨rfl, nd, rfl⟩) | (go_at_call 62; refine (touchstoneref06_digits.calls k s ((i : Int) + 1) (n : Int) _ HN.out).mono ?_; rintro e w1 ⟨rfl, nd, rfl⟩))
  refine bodyPost_ret (v := (.tuple #[.agg #[.int .i64 0, .string ⟨#[]⟩, .int .i64 0, .int .i64 0], .int .i64 0])) (by simp [results, Tryz.results32, go_sem]) rfl ⟨rfl, ?_⟩
  repeat (first | refine Below.setCell ?_ (by simp) _ | refine pw_below_drewN ?_ _ | exact (Below.refl _ _).alloc (Nat.le_refl _) _ | refine Below.alloc ?_ (by simp) _)

set_option maxRecDepth 100000 in
set_option maxHeartbeats 1000000 in
theorem one_neg_48 (s : ByteArray) (i k : Nat) (w : World) (hs : s.size ≤ 1000000) (hlt : i < s.size) (hc : ((s[i]'hlt).toNat : Int) = 45) (hlt1 : i + 1 < s.size) (b : Int) (hb1 : ((s[i + 1]'hlt1).toNat : Int) = b) (h62 : b ≠ 62) (n : Nat) (hN : touchstoneref06_digits.f k s ((i : Int) + 1) = some (n : Int)) (h1 : 1 < n) (h18 : n ≤ 18) (h48 : b = 48) :
    Calls Tryz.prog 32 #[.string s, .int .i64 i] w fun e w' => e = .returned (.tuple #[.agg #[.int .i64 0, .string ⟨#[]⟩, .int .i64 0, .int .i64 0], .int .i64 0]) ∧ Below w.heap.size w w' := by
  have q1 := eq_true (show (0 : Int) ≤ (i : Int) by omega)
  have q2 : ((i : Int) < (s.size : Int)) = True := eq_true (by omega)
  have HN := Aside0.mk hN
  clear hN
  have q3 := eq_true (show (0 : Int) ≤ (i : Int) + 1 by omega)
  have q4 : ((i : Int) + 1 < (s.size : Int)) = True := eq_true (by omega)
  have e62 : (b == 62) = false := by rw [beq_eq_false_iff_ne]; exact h62
  clear h62
  have e0 : ((n : Int) == 0) = false := by first | (rw [beq_eq_false_iff_ne]; omega) | (rw [beq_iff_eq]; omega)
  have e18 : decide ((18 : Int) < (n : Int)) = false := by first | exact decide_eq_true (by omega) | exact decide_eq_false (by omega)
  have e1 : decide ((1 : Int) < (n : Int)) = true := by first | exact decide_eq_true (by omega) | exact decide_eq_false (by omega)
  have e48 : (b == 48) = true := by first | (rw [beq_eq_false_iff_ne]; exact h48) | (rw [beq_iff_eq]; exact h48)
  clear h48
  go_enter Tryz.func32, Tryz.ntmps32
  go_wp2_with (first | (go_at_call 56; refine (touchstoneref06_small.calls 45 false _ rfl).mono ?_; rintro e w1 ⟨rfl, nd, rfl⟩) | (go_at_call 57; refine (touchstoneref06_great.calls 45 false _ rfl).mono ?_; rintro e w1 ⟨rfl, nd, rfl⟩) | (go_at_call 60; refine (touchstoneref06_digit.calls 45 false _ rfl).mono ?_; rintro e w1 ⟨rfl, nd, rfl⟩) | (go_at_call 62; refine (touchstoneref06_digits.calls k s ((i : Int) + 1) (n : Int) _ HN.out).mono ?_; rintro e w1 ⟨rfl, nd, rfl⟩))
  refine bodyPost_ret (v := (.tuple #[.agg #[.int .i64 0, .string ⟨#[]⟩, .int .i64 0, .int .i64 0], .int .i64 0])) (by simp [results, Tryz.results32, go_sem]) rfl ⟨rfl, ?_⟩
  repeat (first | refine Below.setCell ?_ (by simp) _ | refine pw_below_drewN ?_ _ | exact (Below.refl _ _).alloc (Nat.le_refl _) _ | refine Below.alloc ?_ (by simp) _)

set_option maxRecDepth 100000 in
set_option maxHeartbeats 1000000 in
theorem one_neg_48_one (s : ByteArray) (i k : Nat) (w : World) (hs : s.size ≤ 1000000) (hlt : i < s.size) (hc : ((s[i]'hlt).toNat : Int) = 45) (hlt1 : i + 1 < s.size) (b : Int) (hb1 : ((s[i + 1]'hlt1).toNat : Int) = b) (h62 : b ≠ 62) (hN : touchstoneref06_digits.f k s ((i : Int) + 1) = some 1) (h48 : b = 48) :
    Calls Tryz.prog 32 #[.string s, .int .i64 i] w fun e w' => e = .returned (.tuple #[.agg #[.int .i64 0, .string ⟨#[]⟩, .int .i64 0, .int .i64 0], .int .i64 0]) ∧ Below w.heap.size w w' := by
  have q1 := eq_true (show (0 : Int) ≤ (i : Int) by omega)
  have q2 : ((i : Int) < (s.size : Int)) = True := eq_true (by omega)
  have HN := Aside0.mk hN
  clear hN
  have q3 := eq_true (show (0 : Int) ≤ (i : Int) + 1 by omega)
  have q4 : ((i : Int) + 1 < (s.size : Int)) = True := eq_true (by omega)
  have e62 : (b == 62) = false := by rw [beq_eq_false_iff_ne]; exact h62
  clear h62
  have e48 : (b == 48) = true := by first | (rw [beq_eq_false_iff_ne]; exact h48) | (rw [beq_iff_eq]; exact h48)
  clear h48
  go_enter Tryz.func32, Tryz.ntmps32
  go_wp2_with (first | (go_at_call 56; refine (touchstoneref06_small.calls 45 false _ rfl).mono ?_; rintro e w1 ⟨rfl, nd, rfl⟩) | (go_at_call 57; refine (touchstoneref06_great.calls 45 false _ rfl).mono ?_; rintro e w1 ⟨rfl, nd, rfl⟩) | (go_at_call 60; refine (touchstoneref06_digit.calls 45 false _ rfl).mono ?_; rintro e w1 ⟨rfl, nd, rfl⟩) | (go_at_call 62; refine (touchstoneref06_digits.calls k s ((i : Int) + 1) 1 _ HN.out).mono ?_; rintro e w1 ⟨rfl, nd, rfl⟩))
  refine bodyPost_ret (v := (.tuple #[.agg #[.int .i64 0, .string ⟨#[]⟩, .int .i64 0, .int .i64 0], .int .i64 0])) (by simp [results, Tryz.results32, go_sem]) rfl ⟨rfl, ?_⟩
  repeat (first | refine Below.setCell ?_ (by simp) _ | refine pw_below_drewN ?_ _ | exact (Below.refl _ _).alloc (Nat.le_refl _) _ | refine Below.alloc ?_ (by simp) _)

set_option maxRecDepth 100000 in
set_option maxHeartbeats 1000000 in
theorem one_neg_more (s : ByteArray) (i k : Nat) (w : World) (hs : s.size ≤ 1000000) (hlt : i < s.size) (hc : ((s[i]'hlt).toNat : Int) = 45) (hlt1 : i + 1 < s.size) (b : Int) (hb1 : ((s[i + 1]'hlt1).toNat : Int) = b) (h62 : b ≠ 62) (n : Nat) (hN : touchstoneref06_digits.f k s ((i : Int) + 1) = some (n : Int)) (h1 : 1 < n) (h18 : n ≤ 18) (h48 : b ≠ 48) (hin : i + 1 + n ≤ s.size) (x : Int) (hX : touchstoneref06_number.f k (s.extract (i + 1) (i + 1 + n)) = some x) (hx0 : 0 ≤ x) (hx1 : x ≤ 1000000000000000000) :
    Calls Tryz.prog 32 #[.string s, .int .i64 i] w fun e w' => e = .returned (.tuple #[.agg #[.int .i64 4, .string ⟨#[]⟩, .int .i64 (-x), .int .i64 0], .int .i64 ((n : Int) + 1)]) ∧ Below w.heap.size w w' := by
  have q1 := eq_true (show (0 : Int) ≤ (i : Int) by omega)
  have q2 : ((i : Int) < (s.size : Int)) = True := eq_true (by omega)
  have HN := Aside0.mk hN
  have HX := Aside0.mk hX
  clear hN hX
  have q3 := eq_true (show (0 : Int) ≤ (i : Int) + 1 by omega)
  have q4 : ((i : Int) + 1 < (s.size : Int)) = True := eq_true (by omega)
  have e62 : (b == 62) = false := by rw [beq_eq_false_iff_ne]; exact h62
  clear h62
  have e0 : ((n : Int) == 0) = false := by first | (rw [beq_eq_false_iff_ne]; omega) | (rw [beq_iff_eq]; omega)
  have e18 : decide ((18 : Int) < (n : Int)) = false := by first | exact decide_eq_true (by omega) | exact decide_eq_false (by omega)
  have e1 : decide ((1 : Int) < (n : Int)) = true := by first | exact decide_eq_true (by omega) | exact decide_eq_false (by omega)
  have e48 : (b == 48) = false := by first | (rw [beq_eq_false_iff_ne]; exact h48) | (rw [beq_iff_eq]; exact h48)
  clear h48
  have q5 := eq_true (show (i : Int) + 1 ≤ (i : Int) + 1 + n by omega)
  have q6 := eq_true (show (i : Int) + 1 + n ≤ (s.size : Int) by omega)
  have e7 : (i : Int) + 1 + n - i = n + 1 := by omega
  go_enter Tryz.func32, Tryz.ntmps32
  go_wp2_with (first | (go_at_call 56; refine (touchstoneref06_small.calls 45 false _ rfl).mono ?_; rintro e w1 ⟨rfl, nd, rfl⟩) | (go_at_call 57; refine (touchstoneref06_great.calls 45 false _ rfl).mono ?_; rintro e w1 ⟨rfl, nd, rfl⟩) | (go_at_call 60; refine (touchstoneref06_digit.calls 45 false _ rfl).mono ?_; rintro e w1 ⟨rfl, nd, rfl⟩) | (go_at_call 62; refine (touchstoneref06_digits.calls k s ((i : Int) + 1) (n : Int) _ HN.out).mono ?_; rintro e w1 ⟨rfl, nd, rfl⟩) | (go_at_call 63; refine (touchstoneref06_number.calls k (s.extract (i + 1) (i + 1 + n)) x _ HX.out).mono ?_; rintro e w1 ⟨rfl, nd, rfl⟩))
  refine bodyPost_ret (v := (.tuple #[.agg #[.int .i64 4, .string ⟨#[]⟩, .int .i64 (-x), .int .i64 0], .int .i64 ((n : Int) + 1)])) (by simp [results, Tryz.results32, go_sem]) rfl ⟨rfl, ?_⟩
  repeat (first | refine Below.setCell ?_ (by simp) _ | refine pw_below_drewN ?_ _ | exact (Below.refl _ _).alloc (Nat.le_refl _) _ | refine Below.alloc ?_ (by simp) _)

set_option maxRecDepth 100000 in
set_option maxHeartbeats 1000000 in
theorem one_neg_one (s : ByteArray) (i k : Nat) (w : World) (hs : s.size ≤ 1000000) (hlt : i < s.size) (hc : ((s[i]'hlt).toNat : Int) = 45) (hlt1 : i + 1 < s.size) (b : Int) (hb1 : ((s[i + 1]'hlt1).toNat : Int) = b) (h62 : b ≠ 62) (hN : touchstoneref06_digits.f k s ((i : Int) + 1) = some 1) (h48 : b ≠ 48) (hin : i + 1 + 1 ≤ s.size) (x : Int) (hX : touchstoneref06_number.f k (s.extract (i + 1) (i + 1 + 1)) = some x) (hx0 : 0 ≤ x) (hx1 : x ≤ 1000000000000000000) :
    Calls Tryz.prog 32 #[.string s, .int .i64 i] w fun e w' => e = .returned (.tuple #[.agg #[.int .i64 4, .string ⟨#[]⟩, .int .i64 (-x), .int .i64 0], .int .i64 2]) ∧ Below w.heap.size w w' := by
  have q1 := eq_true (show (0 : Int) ≤ (i : Int) by omega)
  have q2 : ((i : Int) < (s.size : Int)) = True := eq_true (by omega)
  have HN := Aside0.mk hN
  have HX := Aside0.mk hX
  clear hN hX
  have q3 := eq_true (show (0 : Int) ≤ (i : Int) + 1 by omega)
  have q4 : ((i : Int) + 1 < (s.size : Int)) = True := eq_true (by omega)
  have e62 : (b == 62) = false := by rw [beq_eq_false_iff_ne]; exact h62
  clear h62
  have e48 : (b == 48) = false := by first | (rw [beq_eq_false_iff_ne]; exact h48) | (rw [beq_iff_eq]; exact h48)
  clear h48
  have q5 := eq_true (show (i : Int) + 1 ≤ (i : Int) + 1 + 1 by omega)
  have q6 := eq_true (show (i : Int) + 1 + 1 ≤ (s.size : Int) by omega)
  have e7 : (i : Int) + 1 + 1 - i = 2 := by omega
  go_enter Tryz.func32, Tryz.ntmps32
  go_wp2_with (first | (go_at_call 56; refine (touchstoneref06_small.calls 45 false _ rfl).mono ?_; rintro e w1 ⟨rfl, nd, rfl⟩) | (go_at_call 57; refine (touchstoneref06_great.calls 45 false _ rfl).mono ?_; rintro e w1 ⟨rfl, nd, rfl⟩) | (go_at_call 60; refine (touchstoneref06_digit.calls 45 false _ rfl).mono ?_; rintro e w1 ⟨rfl, nd, rfl⟩) | (go_at_call 62; refine (touchstoneref06_digits.calls k s ((i : Int) + 1) 1 _ HN.out).mono ?_; rintro e w1 ⟨rfl, nd, rfl⟩) | (go_at_call 63; refine (touchstoneref06_number.calls k (s.extract (i + 1) (i + 1 + 1)) x _ HX.out).mono ?_; rintro e w1 ⟨rfl, nd, rfl⟩))
  refine bodyPost_ret (v := (.tuple #[.agg #[.int .i64 4, .string ⟨#[]⟩, .int .i64 (-x), .int .i64 0], .int .i64 2])) (by simp [results, Tryz.results32, go_sem]) rfl ⟨rfl, ?_⟩
  repeat (first | refine Below.setCell ?_ (by simp) _ | refine pw_below_drewN ?_ _ | exact (Below.refl _ _).alloc (Nat.le_refl _) _ | refine Below.alloc ?_ (by simp) _)

set_option maxRecDepth 100000 in
set_option maxHeartbeats 1000000 in
theorem one_sign (s : ByteArray) (i k : Nat) (w : World) (hs : s.size ≤ 1000000) (hlt : i < s.size) (c : Int) (hc : ((s[i]'hlt).toNat : Int) = c) (hS : touchstoneref06_small.f c = some false) (hG : touchstoneref06_great.f c = some false) (h95 : c ≠ 95) (h39 : c ≠ 39) (h34 : c ≠ 34) (h45 : c ≠ 45) (hD : touchstoneref06_digit.f c = some false) (hin : i + 1 ≤ s.size) (hI : touchstoneref06_In.f k (s.extract i (i + 1)) [(⟨#[61]⟩ : ByteArray), (⟨#[124]⟩ : ByteArray), (⟨#[40]⟩ : ByteArray), (⟨#[41]⟩ : ByteArray), (⟨#[44]⟩ : ByteArray), (⟨#[59]⟩ : ByteArray), (⟨#[58]⟩ : ByteArray), (⟨#[46]⟩ : ByteArray), (⟨#[64]⟩ : ByteArray)] = some true) :
    Calls Tryz.prog 32 #[.string s, .int .i64 i] w fun e w' => e = .returned (.tuple #[.agg #[.int .i64 8, .string (s.extract i (i + 1)), .int .i64 0, .int .i64 0], .int .i64 1]) ∧ Below w.heap.size w w' := by
  have q1 := eq_true (show (0 : Int) ≤ (i : Int) by omega)
  have q2 : ((i : Int) < (s.size : Int)) = True := eq_true (by omega)
  have HS := Aside0.mk hS
  have HG := Aside0.mk hG
  have HD := Aside0.mk hD
  have HI := Aside0.mk hI
  clear hS hG hD hI
  have e95 : (c == 95) = false := by rw [beq_eq_false_iff_ne]; exact h95
  have e39 : (c == 39) = false := by rw [beq_eq_false_iff_ne]; exact h39
  have e34 : (c == 34) = false := by rw [beq_eq_false_iff_ne]; exact h34
  have e45 : (c == 45) = false := by rw [beq_eq_false_iff_ne]; exact h45
  clear h95 h39 h34 h45
  have q5 := eq_true (show (i : Int) ≤ (i : Int) + 1 by omega)
  have q6 := eq_true (show (i : Int) + 1 ≤ (s.size : Int) by omega)
  go_enter Tryz.func32, Tryz.ntmps32
  go_wp2_with (first | (go_at_call 56; refine (touchstoneref06_small.calls _ false _ HS.out).mono ?_; rintro e w1 ⟨rfl, nd, rfl⟩) | (go_at_call 57; refine (touchstoneref06_great.calls _ false _ HG.out).mono ?_; rintro e w1 ⟨rfl, nd, rfl⟩) | (go_at_call 60; refine (touchstoneref06_digit.calls _ false _ HD.out).mono ?_; rintro e w1 ⟨rfl, nd, rfl⟩) | (go_at_call 16; refine (touchstoneref06_In.calls k (s.extract i (i + 1)) (some ⟨w.heap.size + 1, 0, none⟩) 9 [(⟨#[61]⟩ : ByteArray), (⟨#[124]⟩ : ByteArray), (⟨#[40]⟩ : ByteArray), (⟨#[41]⟩ : ByteArray), (⟨#[44]⟩ : ByteArray), (⟨#[59]⟩ : ByteArray), (⟨#[58]⟩ : ByteArray), (⟨#[46]⟩ : ByteArray), (⟨#[64]⟩ : ByteArray)] true _ ?c (by decide) HI.out).mono ?_; (case c => exact lit_C2 _ _ [(⟨#[61]⟩ : ByteArray), (⟨#[124]⟩ : ByteArray), (⟨#[40]⟩ : ByteArray), (⟨#[41]⟩ : ByteArray), (⟨#[44]⟩ : ByteArray), (⟨#[59]⟩ : ByteArray), (⟨#[58]⟩ : ByteArray), (⟨#[46]⟩ : ByteArray), (⟨#[64]⟩ : ByteArray)] _ (by decide) (by simp)); rintro e w2 ⟨rfl, nd, rfl⟩))
  refine bodyPost_ret (v := (.tuple #[.agg #[.int .i64 8, .string (s.extract i (i + 1)), .int .i64 0, .int .i64 0], .int .i64 1])) (by simp [results, Tryz.results32, go_sem]) rfl ⟨rfl, ?_⟩
  repeat (first | refine Below.setCell ?_ (by simp) _ | refine pw_below_drewN ?_ _ | exact (Below.refl _ _).alloc (Nat.le_refl _) _ | refine Below.alloc ?_ (by simp) _)

set_option maxRecDepth 100000 in
set_option maxHeartbeats 1000000 in
theorem one_none (s : ByteArray) (i k : Nat) (w : World) (hs : s.size ≤ 1000000) (hlt : i < s.size) (c : Int) (hc : ((s[i]'hlt).toNat : Int) = c) (hS : touchstoneref06_small.f c = some false) (hG : touchstoneref06_great.f c = some false) (h95 : c ≠ 95) (h39 : c ≠ 39) (h34 : c ≠ 34) (h45 : c ≠ 45) (hD : touchstoneref06_digit.f c = some false) (hin : i + 1 ≤ s.size) (hI : touchstoneref06_In.f k (s.extract i (i + 1)) [(⟨#[61]⟩ : ByteArray), (⟨#[124]⟩ : ByteArray), (⟨#[40]⟩ : ByteArray), (⟨#[41]⟩ : ByteArray), (⟨#[44]⟩ : ByteArray), (⟨#[59]⟩ : ByteArray), (⟨#[58]⟩ : ByteArray), (⟨#[46]⟩ : ByteArray), (⟨#[64]⟩ : ByteArray)] = some false) :
    Calls Tryz.prog 32 #[.string s, .int .i64 i] w fun e w' => e = .returned (.tuple #[.agg #[.int .i64 0, .string ⟨#[]⟩, .int .i64 0, .int .i64 0], .int .i64 0]) ∧ Below w.heap.size w w' := by
  have q1 := eq_true (show (0 : Int) ≤ (i : Int) by omega)
  have q2 : ((i : Int) < (s.size : Int)) = True := eq_true (by omega)
  have HS := Aside0.mk hS
  have HG := Aside0.mk hG
  have HD := Aside0.mk hD
  have HI := Aside0.mk hI
  clear hS hG hD hI
  have e95 : (c == 95) = false := by rw [beq_eq_false_iff_ne]; exact h95
  have e39 : (c == 39) = false := by rw [beq_eq_false_iff_ne]; exact h39
  have e34 : (c == 34) = false := by rw [beq_eq_false_iff_ne]; exact h34
  have e45 : (c == 45) = false := by rw [beq_eq_false_iff_ne]; exact h45
  clear h95 h39 h34 h45
  have q5 := eq_true (show (i : Int) ≤ (i : Int) + 1 by omega)
  have q6 := eq_true (show (i : Int) + 1 ≤ (s.size : Int) by omega)
  go_enter Tryz.func32, Tryz.ntmps32
  go_wp2_with (first | (go_at_call 56; refine (touchstoneref06_small.calls _ false _ HS.out).mono ?_; rintro e w1 ⟨rfl, nd, rfl⟩) | (go_at_call 57; refine (touchstoneref06_great.calls _ false _ HG.out).mono ?_; rintro e w1 ⟨rfl, nd, rfl⟩) | (go_at_call 60; refine (touchstoneref06_digit.calls _ false _ HD.out).mono ?_; rintro e w1 ⟨rfl, nd, rfl⟩) | (go_at_call 16; refine (touchstoneref06_In.calls k (s.extract i (i + 1)) (some ⟨w.heap.size + 1, 0, none⟩) 9 [(⟨#[61]⟩ : ByteArray), (⟨#[124]⟩ : ByteArray), (⟨#[40]⟩ : ByteArray), (⟨#[41]⟩ : ByteArray), (⟨#[44]⟩ : ByteArray), (⟨#[59]⟩ : ByteArray), (⟨#[58]⟩ : ByteArray), (⟨#[46]⟩ : ByteArray), (⟨#[64]⟩ : ByteArray)] false _ ?c (by decide) HI.out).mono ?_; (case c => exact lit_C2 _ _ [(⟨#[61]⟩ : ByteArray), (⟨#[124]⟩ : ByteArray), (⟨#[40]⟩ : ByteArray), (⟨#[41]⟩ : ByteArray), (⟨#[44]⟩ : ByteArray), (⟨#[59]⟩ : ByteArray), (⟨#[58]⟩ : ByteArray), (⟨#[46]⟩ : ByteArray), (⟨#[64]⟩ : ByteArray)] _ (by decide) (by simp)); rintro e w2 ⟨rfl, nd, rfl⟩))
  refine bodyPost_ret (v := (.tuple #[.agg #[.int .i64 0, .string ⟨#[]⟩, .int .i64 0, .int .i64 0], .int .i64 0])) (by simp [results, Tryz.results32, go_sem]) rfl ⟨rfl, ?_⟩
  repeat (first | refine Below.setCell ?_ (by simp) _ | refine pw_below_drewN ?_ _ | exact (Below.refl _ _).alloc (Nat.le_refl _) _ | refine Below.alloc ?_ (by simp) _)

end Go.Proofs.YtaikpnenegifnaaGreatDoor
