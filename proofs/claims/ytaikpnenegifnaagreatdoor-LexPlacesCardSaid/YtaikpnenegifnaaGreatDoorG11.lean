import Derived.Test.YtaikpnenegifnaaGreatDoorG8
import Derived.Lib.TrimByte
import Derived.Test.YtaikpnenegifnaaGreatDoorXLx7
import Derived.Test.YtaikpnenegifnaaGreatDoorG10
import Derived.Lib.AtoiTie
/- lex.name: the name, keyword or variable at the front of a text. -/
namespace Go.Proofs.YtaikpnenegifnaaGreatDoor
set_option linter.unusedSimpArgs false
set_option linter.unusedVariables false
open Go.RowKit Go.Proofs.YtaikpnenegifnaaGreatDoorW.PrintWords Go.Proofs.YtaikpnenegifnaaGreatDoor.XL

set_option maxRecDepth 100000 in
set_option maxHeartbeats 1000000 in
theorem name_30 (s : ByteArray) (n : Nat) (w : World) (hlt : 0 < s.size) (c : Int) (hc : ((s[0]'hlt).toNat : Int) = c) (hin : n ≤ s.size) (hN : lex_run.f s 79 = some (n : Int)) (h30 : 30 < n) :
    Calls Tryz.prog 49 #[.string s] w fun e w' => e = .returned (.tuple #[.agg #[.int .i64 1, .string (s.extract 0 n), .int .i64 0, .int .i64 0], .int .i64 0, .bool false]) ∧ Below w.heap.size w w' := by
  have q2 : ((0 : Int) < (s.size : Int)) = True := eq_true (by omega)
  have q5 := eq_true (show (0 : Int) ≤ (n : Int) by omega)
  have q6 := eq_true (show (n : Int) ≤ (s.size : Int) by omega)
  have HN := Aside0.mk hN
  clear hN
  have e30 : decide ((30 : Int) < (n : Int)) = true := by first | exact decide_eq_true (by omega) | exact decide_eq_false (by omega)
  go_enter Tryz.func49, Tryz.ntmps49
  go_wp2_with (first | (go_at_call 78; refine (lex_run.calls s 79 (n : Int) _ HN.out).mono ?_; rintro e w1 ⟨rfl, nd, rfl⟩))
  refine bodyPost_ret (v := (.tuple #[.agg #[.int .i64 1, .string (s.extract 0 n), .int .i64 0, .int .i64 0], .int .i64 0, .bool false])) (by simp [results, Tryz.results49, go_sem]) rfl ⟨rfl, ?_⟩
  repeat (first | refine Below.setCell ?_ (by simp) _ | refine pw_below_drewN ?_ _ | exact (Below.refl _ _).alloc (Nat.le_refl _) _ | refine Below.alloc ?_ (by simp) _)

set_option maxRecDepth 100000 in
set_option maxHeartbeats 1000000 in
theorem name_great (s : ByteArray) (n : Nat) (w : World) (hlt : 0 < s.size) (c : Int) (hc : ((s[0]'hlt).toNat : Int) = c) (hin : n ≤ s.size) (hN : lex_run.f s 79 = some (n : Int)) (h30 : n ≤ 30) (hG : lex_great.f c = some true) :
    Calls Tryz.prog 49 #[.string s] w fun e w' => e = .returned (.tuple #[.agg #[.int .i64 2, .string (s.extract 0 n), .int .i64 0, .int .i64 0], .int .i64 (n : Int), .bool true]) ∧ Below w.heap.size w w' := by
  have q2 : ((0 : Int) < (s.size : Int)) = True := eq_true (by omega)
  have q5 := eq_true (show (0 : Int) ≤ (n : Int) by omega)
  have q6 := eq_true (show (n : Int) ≤ (s.size : Int) by omega)
  have HN := Aside0.mk hN
  have HG := Aside0.mk hG
  clear hN hG
  have e30 : decide ((30 : Int) < (n : Int)) = false := by first | exact decide_eq_true (by omega) | exact decide_eq_false (by omega)
  go_enter Tryz.func49, Tryz.ntmps49
  go_wp2_with (first | (go_at_call 78; refine (lex_run.calls s 79 (n : Int) _ HN.out).mono ?_; rintro e w1 ⟨rfl, nd, rfl⟩) | (go_at_call 48; refine (lex_great.calls _ true _ HG.out).mono ?_; rintro e w1 ⟨rfl, nd, rfl⟩))
  refine bodyPost_ret (v := (.tuple #[.agg #[.int .i64 2, .string (s.extract 0 n), .int .i64 0, .int .i64 0], .int .i64 (n : Int), .bool true])) (by simp [results, Tryz.results49, go_sem]) rfl ⟨rfl, ?_⟩
  repeat (first | refine Below.setCell ?_ (by simp) _ | refine pw_below_drewN ?_ _ | exact (Below.refl _ _).alloc (Nat.le_refl _) _ | refine Below.alloc ?_ (by simp) _)

set_option maxRecDepth 100000 in
set_option maxHeartbeats 1000000 in
theorem name_u (s : ByteArray) (n : Nat) (w : World) (hlt : 0 < s.size) (c : Int) (hc : ((s[0]'hlt).toNat : Int) = c) (hin : n ≤ s.size) (hN : lex_run.f s 79 = some (n : Int)) (h30 : n ≤ 30) (hG : lex_great.f c = some false) (hU : (s.toList == ([95] : List UInt8)) = true) :
    Calls Tryz.prog 49 #[.string s] w fun e w' => e = .returned (.tuple #[.agg #[.int .i64 8, .string (s.extract 0 n), .int .i64 0, .int .i64 0], .int .i64 (n : Int), .bool true]) ∧ Below w.heap.size w w' := by
  have q2 : ((0 : Int) < (s.size : Int)) = True := eq_true (by omega)
  have q5 := eq_true (show (0 : Int) ≤ (n : Int) by omega)
  have q6 := eq_true (show (n : Int) ≤ (s.size : Int) by omega)
  have HN := Aside0.mk hN
  have HG := Aside0.mk hG
  clear hN hG
  have e30 : decide ((30 : Int) < (n : Int)) = false := by first | exact decide_eq_true (by omega) | exact decide_eq_false (by omega)
  go_enter Tryz.func49, Tryz.ntmps49
  go_wp2_with (first | (go_at_call 78; refine (lex_run.calls s 79 (n : Int) _ HN.out).mono ?_; rintro e w1 ⟨rfl, nd, rfl⟩) | (go_at_call 48; refine (lex_great.calls _ false _ HG.out).mono ?_; rintro e w1 ⟨rfl, nd, rfl⟩))
  refine bodyPost_ret (v := (.tuple #[.agg #[.int .i64 8, .string (s.extract 0 n), .int .i64 0, .int .i64 0], .int .i64 (n : Int), .bool true])) (by simp [results, Tryz.results49, go_sem]) rfl ⟨rfl, ?_⟩
  repeat (first | refine Below.setCell ?_ (by simp) _ | refine pw_below_drewN ?_ _ | exact (Below.refl _ _).alloc (Nat.le_refl _) _ | refine Below.alloc ?_ (by simp) _)

set_option maxRecDepth 100000 in
set_option maxHeartbeats 1000000 in
theorem name_u1 (s : ByteArray) (n : Nat) (w : World) (hlt : 0 < s.size) (c : Int) (hc : ((s[0]'hlt).toNat : Int) = c) (hin : n ≤ s.size) (hN : lex_run.f s 79 = some (n : Int)) (h30 : n ≤ 30) (hG : lex_great.f c = some false) (hU : (s.toList == ([95] : List UInt8)) = false) (h1 : n = 1) (h95 : c = 95) :
    Calls Tryz.prog 49 #[.string s] w fun e w' => e = .returned (.tuple #[.agg #[.int .i64 8, .string (s.extract 0 n), .int .i64 0, .int .i64 0], .int .i64 (n : Int), .bool true]) ∧ Below w.heap.size w w' := by
  have q2 : ((0 : Int) < (s.size : Int)) = True := eq_true (by omega)
  have q5 := eq_true (show (0 : Int) ≤ (n : Int) by omega)
  have q6 := eq_true (show (n : Int) ≤ (s.size : Int) by omega)
  have HN := Aside0.mk hN
  have HG := Aside0.mk hG
  clear hN hG
  have e30 : decide ((30 : Int) < (n : Int)) = false := by first | exact decide_eq_true (by omega) | exact decide_eq_false (by omega)
  have e1 : ((n : Int) == 1) = true := by first | (rw [beq_eq_false_iff_ne]; omega) | (rw [beq_iff_eq]; omega)
  have e95 : (c == 95) = true := by first | (rw [beq_eq_false_iff_ne]; exact h95) | (rw [beq_iff_eq]; exact h95)
  clear h95 h1
  go_enter Tryz.func49, Tryz.ntmps49
  go_wp2_with (first | (go_at_call 78; refine (lex_run.calls s 79 (n : Int) _ HN.out).mono ?_; rintro e w1 ⟨rfl, nd, rfl⟩) | (go_at_call 48; refine (lex_great.calls _ false _ HG.out).mono ?_; rintro e w1 ⟨rfl, nd, rfl⟩))
  refine bodyPost_ret (v := (.tuple #[.agg #[.int .i64 8, .string (s.extract 0 n), .int .i64 0, .int .i64 0], .int .i64 (n : Int), .bool true])) (by simp [results, Tryz.results49, go_sem]) rfl ⟨rfl, ?_⟩
  repeat (first | refine Below.setCell ?_ (by simp) _ | refine pw_below_drewN ?_ _ | exact (Below.refl _ _).alloc (Nat.le_refl _) _ | refine Below.alloc ?_ (by simp) _)

set_option maxRecDepth 100000 in
set_option maxHeartbeats 1000000 in
theorem name_7_1 (s : ByteArray) (n : Nat) (w : World) (hlt : 0 < s.size) (c : Int) (hc : ((s[0]'hlt).toNat : Int) = c) (hin : n ≤ s.size) (hN : lex_run.f s 79 = some (n : Int)) (h30 : n ≤ 30) (hG : lex_great.f c = some false) (hU : (s.toList == ([95] : List UInt8)) = false) (h1 : n = 1) (h95 : c ≠ 95) (hK : lex_Keyword.f (s.extract 0 n) = some true) :
    Calls Tryz.prog 49 #[.string s] w fun e w' => e = .returned (.tuple #[.agg #[.int .i64 7, .string (s.extract 0 n), .int .i64 0, .int .i64 0], .int .i64 (n : Int), .bool true]) ∧ Below w.heap.size w w' := by
  have q2 : ((0 : Int) < (s.size : Int)) = True := eq_true (by omega)
  have q5 := eq_true (show (0 : Int) ≤ (n : Int) by omega)
  have q6 := eq_true (show (n : Int) ≤ (s.size : Int) by omega)
  have HN := Aside0.mk hN
  have HG := Aside0.mk hG
  have HK := Aside0.mk hK
  clear hN hG hK
  have e30 : decide ((30 : Int) < (n : Int)) = false := by first | exact decide_eq_true (by omega) | exact decide_eq_false (by omega)
  have e1 : ((n : Int) == 1) = true := by first | (rw [beq_eq_false_iff_ne]; omega) | (rw [beq_iff_eq]; omega)
  have e95 : (c == 95) = false := by first | (rw [beq_eq_false_iff_ne]; exact h95) | (rw [beq_iff_eq]; exact h95)
  clear h95 h1
  go_enter Tryz.func49, Tryz.ntmps49
  go_wp2_with (first | (go_at_call 78; refine (lex_run.calls s 79 (n : Int) _ HN.out).mono ?_; rintro e w1 ⟨rfl, nd, rfl⟩) | (go_at_call 48; refine (lex_great.calls _ false _ HG.out).mono ?_; rintro e w1 ⟨rfl, nd, rfl⟩) | (go_at_call 15; refine (lex_Keyword.calls _ true _ HK.out).mono ?_; rintro e w1 ⟨rfl, nd, rfl⟩))
  refine bodyPost_ret (v := (.tuple #[.agg #[.int .i64 7, .string (s.extract 0 n), .int .i64 0, .int .i64 0], .int .i64 (n : Int), .bool true])) (by simp [results, Tryz.results49, go_sem]) rfl ⟨rfl, ?_⟩
  repeat (first | refine Below.setCell ?_ (by simp) _ | refine pw_below_drewN ?_ _ | exact (Below.refl _ _).alloc (Nat.le_refl _) _ | refine Below.alloc ?_ (by simp) _)

set_option maxRecDepth 100000 in
set_option maxHeartbeats 1000000 in
theorem name_7 (s : ByteArray) (n : Nat) (w : World) (hlt : 0 < s.size) (c : Int) (hc : ((s[0]'hlt).toNat : Int) = c) (hin : n ≤ s.size) (hN : lex_run.f s 79 = some (n : Int)) (h30 : n ≤ 30) (hG : lex_great.f c = some false) (hU : (s.toList == ([95] : List UInt8)) = false) (h1 : n ≠ 1) (hK : lex_Keyword.f (s.extract 0 n) = some true) :
    Calls Tryz.prog 49 #[.string s] w fun e w' => e = .returned (.tuple #[.agg #[.int .i64 7, .string (s.extract 0 n), .int .i64 0, .int .i64 0], .int .i64 (n : Int), .bool true]) ∧ Below w.heap.size w w' := by
  have q2 : ((0 : Int) < (s.size : Int)) = True := eq_true (by omega)
  have q5 := eq_true (show (0 : Int) ≤ (n : Int) by omega)
  have q6 := eq_true (show (n : Int) ≤ (s.size : Int) by omega)
  have HN := Aside0.mk hN
  have HG := Aside0.mk hG
  have HK := Aside0.mk hK
  clear hN hG hK
  have e30 : decide ((30 : Int) < (n : Int)) = false := by first | exact decide_eq_true (by omega) | exact decide_eq_false (by omega)
  have e1 : ((n : Int) == 1) = false := by first | (rw [beq_eq_false_iff_ne]; omega) | (rw [beq_iff_eq]; omega)
  clear h1
  go_enter Tryz.func49, Tryz.ntmps49
  go_wp2_with (first | (go_at_call 78; refine (lex_run.calls s 79 (n : Int) _ HN.out).mono ?_; rintro e w1 ⟨rfl, nd, rfl⟩) | (go_at_call 48; refine (lex_great.calls _ false _ HG.out).mono ?_; rintro e w1 ⟨rfl, nd, rfl⟩) | (go_at_call 15; refine (lex_Keyword.calls _ true _ HK.out).mono ?_; rintro e w1 ⟨rfl, nd, rfl⟩))
  refine bodyPost_ret (v := (.tuple #[.agg #[.int .i64 7, .string (s.extract 0 n), .int .i64 0, .int .i64 0], .int .i64 (n : Int), .bool true])) (by simp [results, Tryz.results49, go_sem]) rfl ⟨rfl, ?_⟩
  repeat (first | refine Below.setCell ?_ (by simp) _ | refine pw_below_drewN ?_ _ | exact (Below.refl _ _).alloc (Nat.le_refl _) _ | refine Below.alloc ?_ (by simp) _)

set_option maxRecDepth 100000 in
set_option maxHeartbeats 1000000 in
theorem name_1_1 (s : ByteArray) (n : Nat) (w : World) (hlt : 0 < s.size) (c : Int) (hc : ((s[0]'hlt).toNat : Int) = c) (hin : n ≤ s.size) (hN : lex_run.f s 79 = some (n : Int)) (h30 : n ≤ 30) (hG : lex_great.f c = some false) (hU : (s.toList == ([95] : List UInt8)) = false) (h1 : n = 1) (h95 : c ≠ 95) (hK : lex_Keyword.f (s.extract 0 n) = some false) :
    Calls Tryz.prog 49 #[.string s] w fun e w' => e = .returned (.tuple #[.agg #[.int .i64 1, .string (s.extract 0 n), .int .i64 0, .int .i64 0], .int .i64 (n : Int), .bool true]) ∧ Below w.heap.size w w' := by
  have q2 : ((0 : Int) < (s.size : Int)) = True := eq_true (by omega)
  have q5 := eq_true (show (0 : Int) ≤ (n : Int) by omega)
  have q6 := eq_true (show (n : Int) ≤ (s.size : Int) by omega)
  have HN := Aside0.mk hN
  have HG := Aside0.mk hG
  have HK := Aside0.mk hK
  clear hN hG hK
  have e30 : decide ((30 : Int) < (n : Int)) = false := by first | exact decide_eq_true (by omega) | exact decide_eq_false (by omega)
  have e1 : ((n : Int) == 1) = true := by first | (rw [beq_eq_false_iff_ne]; omega) | (rw [beq_iff_eq]; omega)
  have e95 : (c == 95) = false := by first | (rw [beq_eq_false_iff_ne]; exact h95) | (rw [beq_iff_eq]; exact h95)
  clear h95 h1
  go_enter Tryz.func49, Tryz.ntmps49
  go_wp2_with (first | (go_at_call 78; refine (lex_run.calls s 79 (n : Int) _ HN.out).mono ?_; rintro e w1 ⟨rfl, nd, rfl⟩) | (go_at_call 48; refine (lex_great.calls _ false _ HG.out).mono ?_; rintro e w1 ⟨rfl, nd, rfl⟩) | (go_at_call 15; refine (lex_Keyword.calls _ false _ HK.out).mono ?_; rintro e w1 ⟨rfl, nd, rfl⟩))
  refine bodyPost_ret (v := (.tuple #[.agg #[.int .i64 1, .string (s.extract 0 n), .int .i64 0, .int .i64 0], .int .i64 (n : Int), .bool true])) (by simp [results, Tryz.results49, go_sem]) rfl ⟨rfl, ?_⟩
  repeat (first | refine Below.setCell ?_ (by simp) _ | refine pw_below_drewN ?_ _ | exact (Below.refl _ _).alloc (Nat.le_refl _) _ | refine Below.alloc ?_ (by simp) _)

set_option maxRecDepth 100000 in
set_option maxHeartbeats 1000000 in
theorem name_1 (s : ByteArray) (n : Nat) (w : World) (hlt : 0 < s.size) (c : Int) (hc : ((s[0]'hlt).toNat : Int) = c) (hin : n ≤ s.size) (hN : lex_run.f s 79 = some (n : Int)) (h30 : n ≤ 30) (hG : lex_great.f c = some false) (hU : (s.toList == ([95] : List UInt8)) = false) (h1 : n ≠ 1) (hK : lex_Keyword.f (s.extract 0 n) = some false) :
    Calls Tryz.prog 49 #[.string s] w fun e w' => e = .returned (.tuple #[.agg #[.int .i64 1, .string (s.extract 0 n), .int .i64 0, .int .i64 0], .int .i64 (n : Int), .bool true]) ∧ Below w.heap.size w w' := by
  have q2 : ((0 : Int) < (s.size : Int)) = True := eq_true (by omega)
  have q5 := eq_true (show (0 : Int) ≤ (n : Int) by omega)
  have q6 := eq_true (show (n : Int) ≤ (s.size : Int) by omega)
  have HN := Aside0.mk hN
  have HG := Aside0.mk hG
  have HK := Aside0.mk hK
  clear hN hG hK
  have e30 : decide ((30 : Int) < (n : Int)) = false := by first | exact decide_eq_true (by omega) | exact decide_eq_false (by omega)
  have e1 : ((n : Int) == 1) = false := by first | (rw [beq_eq_false_iff_ne]; omega) | (rw [beq_iff_eq]; omega)
  clear h1
  go_enter Tryz.func49, Tryz.ntmps49
  go_wp2_with (first | (go_at_call 78; refine (lex_run.calls s 79 (n : Int) _ HN.out).mono ?_; rintro e w1 ⟨rfl, nd, rfl⟩) | (go_at_call 48; refine (lex_great.calls _ false _ HG.out).mono ?_; rintro e w1 ⟨rfl, nd, rfl⟩) | (go_at_call 15; refine (lex_Keyword.calls _ false _ HK.out).mono ?_; rintro e w1 ⟨rfl, nd, rfl⟩))
  refine bodyPost_ret (v := (.tuple #[.agg #[.int .i64 1, .string (s.extract 0 n), .int .i64 0, .int .i64 0], .int .i64 (n : Int), .bool true])) (by simp [results, Tryz.results49, go_sem]) rfl ⟨rfl, ?_⟩
  repeat (first | refine Below.setCell ?_ (by simp) _ | refine pw_below_drewN ?_ _ | exact (Below.refl _ _).alloc (Nat.le_refl _) _ | refine Below.alloc ?_ (by simp) _)


theorem keyword_f (w : List UInt8) : lex_Keyword.f ⟨w.toArray⟩ = some (decide (w ∈ kwL)) := by
  have e : (⟨w.toArray⟩ : ByteArray).toList = w := by rw [ByteArray.toList_eq]
  unfold lex_Keyword.f
  rw [e]
  by_cases h : w ∈ kwL
  · rw [decide_eq_true h]
    simp only [kwL, List.mem_cons, List.not_mem_nil, or_false] at h
    rcases h with h | h | h | h | h | h | h | h | h | h | h <;> subst h <;> rfl
  · rw [decide_eq_false h]
    simp only [kwL, List.mem_cons, List.not_mem_nil, or_false, not_or] at h
    obtain ⟨h1, h2, h3, h4, h5, h6, h7, h8, h9, h10, h11⟩ := h
    rw [if_neg h1, if_neg h2, if_neg h3, if_neg h4, if_neg h5, if_neg h6, if_neg h7, if_neg h8, if_neg h9, if_neg h10, if_neg h11]

/-- lex.name of a text that is not empty. -/
def lex_name.f (a0 : ByteArray) : Option (Int × ByteArray × Int × Int × Int × Bool) :=
  if a0.size ≤ 1000000 ∧ 0 < a0.size then some (match nameL a0.data.toList with
    | some ((kd, t, n), m) => (kd, ⟨t.toArray⟩, n, 0, (m : Int), true)
    | none => (1, ⟨(a0.data.toList.takeWhile isN).toArray⟩, 0, 0, 0, false)) else none
theorem lex_name.calls (a0 : ByteArray) (r1 : Int) (r2 : ByteArray) (r3 r4 r5 : Int) (r6 : Bool) (w : World) (h : lex_name.f a0 = some (r1, r2, r3, r4, r5, r6)) :
    Calls Tryz.prog 49 #[.string a0] w fun e w' => e = .returned (.tuple #[.agg #[.int .i64 r1, .string r2, .int .i64 r3, .int .i64 r4], .int .i64 r5, .bool r6]) ∧ Below w.heap.size w w' := by
  unfold lex_name.f at h
  split at h
  · rename_i hs
    obtain ⟨hs, hlt⟩ := hs
    have h := Option.some.inj h
    obtain ⟨l, hl⟩ : ∃ l, a0.data.toList = l := ⟨_, rfl⟩
    have ha : a0 = ⟨l.toArray⟩ := by rw [← hl]
    have hsz : a0.size = l.length := by rw [← hl]; exact Array.length_toList.symm
    have hN : lex_run.f a0 79 = some ((l.takeWhile isN).length : Int) := by
      unfold lex_run.f
      rw [if_pos hs, if_pos rfl, hl]
    have hle := tw_len isN l
    have hext : a0.extract 0 (l.takeWhile isN).length = ⟨(l.takeWhile isN).toArray⟩ := by
      rw [ha, Lib.extract_mk, List.drop_zero, Nat.sub_zero, tw_take]
    rw [hl] at h
    obtain ⟨c, q, hcq⟩ : ∃ c q, l = c :: q := by
      cases l with
      | nil => rw [List.length_nil] at hsz; omega
      | cons c q => exact ⟨c, q, rfl⟩
    have hc : ((a0[0]'hlt).toNat : Int) = (c.toNat : Int) := by subst ha; subst hcq; rfl
    have hc0 := c.toNat_lt
    have cb : UInt8.ofNat ((c.toNat : Int)).toNat = c := by rw [Int.toNat_natCast]; exact UInt8.ofNat_toNat
    have hGf : lex_great.f (c.toNat : Int) = some (isG c) := by
      have := great_f (c := (c.toNat : Int)) (by omega) (by omega)
      rwa [cb] at this
    unfold nameL at h
    by_cases h30 : 30 < (l.takeWhile isN).length
    · rw [if_pos h30] at h
      simp only [Prod.mk.injEq] at h
      obtain ⟨rfl, rfl, rfl, rfl, rfl, rfl⟩ := h
      have := name_30 a0 _ w hlt _ hc (by omega) hN h30
      rwa [hext] at this
    rw [if_neg h30] at h
    simp only [Prod.mk.injEq] at h
    obtain ⟨rfl, rfl, rfl, rfl, rfl, rfl⟩ := h
    rw [← hext]
    have hw0 : isN c = true → (l.takeWhile isN) = c :: q.takeWhile isN := fun e => by rw [hcq]; exact List.takeWhile_cons_of_pos e
    by_cases hG : isG c = true
    · have hNc : isN c = true := by unfold isN isV; simp [hG]
      have hk : nameK (l.takeWhile isN) = 2 := by rw [hw0 hNc]; unfold nameK; exact if_pos hG
      rw [hG] at hGf
      rw [hk]
      exact name_great a0 _ w hlt _ hc (by omega) hN (by omega) hGf
    have hG' : isG c = false := by simpa using hG
    rw [hG'] at hGf
    have hhd : isG ((l.takeWhile isN).headD 0) = false := by
      cases hq : l.takeWhile isN with
      | nil => decide
      | cons b q2 =>
        by_cases hNc : isN c = true
        · rw [hw0 hNc] at hq
          simp only [List.cons.injEq] at hq
          rw [← hq.1]; exact hG'
        · rw [hcq, List.takeWhile_cons_of_neg hNc] at hq
          cases hq
    have tl : a0.toList = l := by rw [ha, ByteArray.toList_eq]
    by_cases hU : l = [95]
    · have hk : nameK (l.takeWhile isN) = 8 := by rw [hU]; decide
      rw [hk]
      exact name_u a0 _ w hlt _ hc (by omega) hN (by omega) hGf (by rw [tl, hU]; rfl)
    have hU' : (a0.toList == ([95] : List UInt8)) = false := by rw [tl, beq_eq_false_iff_ne]; exact hU
    by_cases h1 : (l.takeWhile isN).length = 1
    · by_cases h95 : c = 95
      · have hk : nameK (l.takeWhile isN) = 8 := by
          have hw := hw0 (by rw [h95]; decide)
          have hq : q.takeWhile isN = [] := by
            rw [hw] at h1
            exact List.eq_nil_of_length_eq_zero (by simpa using h1)
          rw [hw, hq, h95]; decide
        rw [hk]
        exact name_u1 a0 _ w hlt _ hc (by omega) hN (by omega) hGf hU' h1 (by rw [h95]; rfl)
      · have h95' : ¬ ((c.toNat : Int) = 95) := fun e => h95 (UInt8.toNat_inj.1 (by show c.toNat = 95; omega))
        have hne : l.takeWhile isN ≠ [95] := fun e => by
          by_cases hNc : isN c = true
          · rw [hw0 hNc] at e
            simp only [List.cons.injEq] at e
            exact h95 e.1
          · rw [hcq, List.takeWhile_cons_of_neg hNc] at e
            cases e
        by_cases hkw : l.takeWhile isN ∈ kwL
        · have hk : nameK (l.takeWhile isN) = 7 := by unfold nameK; rw [if_neg (by rw [hhd]; decide), if_neg hne, if_pos hkw]
          rw [hk]
          exact name_7_1 a0 _ w hlt _ hc (by omega) hN (by omega) hGf hU' h1 h95' (by rw [hext, keyword_f, decide_eq_true hkw])
        · have hk : nameK (l.takeWhile isN) = 1 := by unfold nameK; rw [if_neg (by rw [hhd]; decide), if_neg hne, if_neg hkw]
          rw [hk]
          exact name_1_1 a0 _ w hlt _ hc (by omega) hN (by omega) hGf hU' h1 h95' (by rw [hext, keyword_f, decide_eq_false hkw])
    · have hne : l.takeWhile isN ≠ [95] := fun e => h1 (by rw [e]; rfl)
      by_cases hkw : l.takeWhile isN ∈ kwL
      · have hk : nameK (l.takeWhile isN) = 7 := by unfold nameK; rw [if_neg (by rw [hhd]; decide), if_neg hne, if_pos hkw]
        rw [hk]
        exact name_7 a0 _ w hlt _ hc (by omega) hN (by omega) hGf hU' h1 (by rw [hext, keyword_f, decide_eq_true hkw])
      · have hk : nameK (l.takeWhile isN) = 1 := by unfold nameK; rw [if_neg (by rw [hhd]; decide), if_neg hne, if_neg hkw]
        rw [hk]
        exact name_1 a0 _ w hlt _ hc (by omega) hN (by omega) hGf hU' h1 (by rw [hext, keyword_f, decide_eq_false hkw])
  · cases h
end Go.Proofs.YtaikpnenegifnaaGreatDoor

/- lex's texts, variables and versions, in plain Lean: what LexSpec says; no program in sight. -/
namespace Go.Proofs.YtaikpnenegifnaaGreatDoor
set_option linter.unusedSimpArgs false
set_option linter.unusedVariables false
open Go.RowKit Go.Proofs.YtaikpnenegifnaaGreatDoorW.PrintWords Go.Proofs.YtaikpnenegifnaaGreatDoor.XL

theorem nums_B (t : List UInt8) : strOfNums (t.map fun c => (c.toNat : Int)) = B t := by
  unfold strOfNums
  congr 2
  rw [List.map_map]
  have : ((fun n : Int => UInt8.ofNat n.toNat) ∘ fun c : UInt8 => (c.toNat : Int)) = id := by
    funext c
    simp
  rw [this, List.map_id]

/-! ### texts -/
theorem esc_index (d : UInt8) : (escOf d = none ∧ Lib.indexByte [92, 34, 110, 116] d = -1) ∨ (∃ (x : UInt8) (j : Nat), j < 4 ∧ escOf d = some x ∧ Lib.indexByte [92, 34, 110, 116] d = (j : Int) ∧ bt (⟨#[92, 34, 10, 9]⟩ : ByteArray) (j : Int) = (x.toNat : Int)) := by
  by_cases h1 : d = 92
  · subst h1; exact .inr ⟨92, 0, by decide, rfl, rfl, rfl⟩
  by_cases h2 : d = 34
  · subst h2; exact .inr ⟨34, 1, by decide, rfl, rfl, rfl⟩
  by_cases h3 : d = 110
  · subst h3; exact .inr ⟨10, 2, by decide, rfl, rfl, rfl⟩
  by_cases h4 : d = 116
  · subst h4; exact .inr ⟨9, 3, by decide, rfl, rfl, rfl⟩
  left
  refine ⟨by unfold escOf; rw [if_neg h1, if_neg h2, if_neg h3, if_neg h4], ?_⟩
  have e1 : ((92 : UInt8) == d) = false := by rw [beq_eq_false_iff_ne]; exact fun e => h1 e.symm
  have e2 : ((34 : UInt8) == d) = false := by rw [beq_eq_false_iff_ne]; exact fun e => h2 e.symm
  have e3 : ((110 : UInt8) == d) = false := by rw [beq_eq_false_iff_ne]; exact fun e => h3 e.symm
  have e4 : ((116 : UInt8) == d) = false := by rw [beq_eq_false_iff_ne]; exact fun e => h4 e.symm
  simp [Lib.indexByte, e1, e2, e3, e4]

theorem text_loop (L : List UInt8) (hL : L.length ≤ 1000000) : ∀ (m i : Nat) (b : List Int) (k : Nat), i + m = L.length → b.length ≤ i → 2 * m + 2 ≤ k →
    lex_text.l0 k (B L) b i = some (match textL (L.drop i) with
      | some (t, n) => (5, strOfNums (b ++ t.map fun c => (c.toNat : Int)), 0, 0, ((i + n : Nat) : Int), decide (((b.length + t.length : Nat) : Int) ≤ 1000))
      | none => (0, ⟨#[]⟩, 0, 0, 0, false)) := by
  intro m
  induction m using Nat.strongRecOn with
  | _ m ih =>
    intro i b k hi hb hk
    obtain ⟨k, rfl⟩ : ∃ q, k = q + 2 := ⟨k - 2, by omega⟩
    rw [lex_text.l0, sz_B]
    by_cases hlt : i < L.length
    · rw [if_pos (by omega), if_pos (by omega), bt_B, drop_cons hlt, textL_cons]
      generalize hc : L.getD i 0 = c
      have c255 := c.toNat_lt
      by_cases h34 : c = 34
      · subst h34
        rw [if_pos (by decide), if_pos rfl, wadd1 (by omega)]
        simp
      · rw [if_neg (ne34 h34), if_neg h34]
        by_cases hg : c.toNat < 32 ∨ 126 < c.toNat
        · rw [if_pos hg]
          have bad : ∀ x, lex_text.j1 (k + 1) (B L) b i x true = some (0, ⟨#[]⟩, 0, 0, 0, false) := by intro x; rw [lex_text.j1]; rfl
          by_cases h32 : (c.toNat : Int) < 32
          · rw [if_pos h32, bad]
          · rw [if_neg h32, decide_eq_true (by omega), bad]
        · rw [if_neg hg, if_neg (by omega), decide_eq_false (by omega), lex_text.j1, if_neg (by decide)]
          by_cases h92 : c = 92
          · rw [if_pos (by subst h92; decide), if_pos h92, wadd1 (by omega), sz_B]
            by_cases hend : i + 1 = L.length
            · rw [if_pos (by omega), List.drop_of_length_le (by omega)]
            · rw [if_neg (by omega), if_pos (by omega), if_pos (by omega), bt_B, drop_cons (by omega)]
              generalize hd : L.getD (i + 1) 0 = d
              have ei : strings_IndexByte.f (⟨#[92, 34, 110, 116]⟩ : ByteArray) (d.toNat : Int) = some (Lib.indexByte [92, 34, 110, 116] d) := by
                show some (Lib.indexByte [92, 34, 110, 116] (d.toNat : Int).toNat.toUInt8) = _
                rw [Int.toNat_natCast]
                congr 2
                exact UInt8.ofNat_toNat
              rw [ei, Option.bind_some, wadd1 (a := i + 1) (by omega)]
              rcases esc_index d with ⟨e1, e2⟩ | ⟨x, j, hj, e1, e2, e3⟩
              · rw [e2, if_pos (by decide)]
                simp only [e1]
              · rw [e2, if_neg (by omega), if_pos (by omega), if_pos (by omega), if_pos (by omega), e3, ih (m - 2) (by omega) (i + 2) _ k (by omega) (by simp; omega) (by omega)]
                simp only [e1]
                cases textL (L.drop (i + 1 + 1)) with
                | none => rfl
                | some p =>
                  obtain ⟨t, n⟩ := p
                  simp only [Option.map_some, List.append_assoc, List.singleton_append, List.map_cons, List.length_append, List.length_cons, List.length_nil]
                  rw [show b.length + (0 + 1) + t.length = b.length + (t.length + 1) by omega, show i + 2 + n = i + (n + 2) by omega]
          · rw [if_neg (ne92 h92), if_neg h92, if_pos (by omega), wadd1 (a := i) (by omega), ih (m - 1) (by omega) (i + 1) _ k (by omega) (by simp; omega) (by omega)]
            cases textL (L.drop (i + 1)) with
            | none => rfl
            | some p =>
              obtain ⟨t, n⟩ := p
              simp only [Option.map_some, List.append_assoc, List.singleton_append, List.map_cons, List.length_append, List.length_cons, List.length_nil]
              rw [show b.length + (0 + 1) + t.length = b.length + (t.length + 1) by omega, show i + 1 + n = i + (n + 1) by omega]
    · rw [if_neg (by omega), List.drop_of_length_le (by omega)]
      rfl
theorem text_f (c : UInt8) (r : List UInt8) (hL : (c :: r).length ≤ 1000000) (k : Nat) (hk : 2 * r.length + 10 ≤ k) :
    lex_text.f k (B (c :: r)) = some (match textL r with
      | some (t, n) => (5, B t, 0, 0, ((n + 1 : Nat) : Int), decide ((t.length : Int) ≤ 1000))
      | none => (0, ⟨#[]⟩, 0, 0, 0, false)) := by
  have h := text_loop (c :: r) hL r.length 1 [] k (by simp; omega) (by simp) (by omega)
  unfold lex_text.f
  rw [show ((1 : Nat) : Int) = 1 from rfl] at h
  rw [h]
  simp only [List.drop_succ_cons, List.drop_zero]
  cases textL r with
  | none => rfl
  | some p =>
    obtain ⟨t, n⟩ := p
    simp only [List.nil_append, nums_B, List.length_nil, Nat.zero_add]
    rw [show 1 + n = n + 1 by omega]

/-- What a function of lex answers for a token of LexSpec. -/
def OneRes (o : Option (TokL × Nat)) (r : Int × ByteArray × Int × Int × Int × Bool) : Prop :=
  match o with
  | some ((kd, t, n), m) => r = (kd, B t, n, 0, (m : Int), true)
  | none => r.2.2.2.2.2 = false

theorem lsmall (c : UInt8) : lex_small.f (c.toNat : Int) = some (isS c) := by
  have hc := c.toNat_lt
  have h := small_f (c := (c.toNat : Int)) (by omega) (by omega)
  rwa [show UInt8.ofNat ((c.toNat : Int)).toNat = c by rw [Int.toNat_natCast]; exact UInt8.ofNat_toNat] at h
theorem lgreat (c : UInt8) : lex_great.f (c.toNat : Int) = some (isG c) := by
  have hc := c.toNat_lt
  have h := great_f (c := (c.toNat : Int)) (by omega) (by omega)
  rwa [show UInt8.ofNat ((c.toNat : Int)).toNat = c by rw [Int.toNat_natCast]; exact UInt8.ofNat_toNat] at h
theorem ldigit (c : UInt8) : lex_digit.f (c.toNat : Int) = some (isD c) := by
  have hc := c.toNat_lt
  have h := digit_f (c := (c.toNat : Int)) (by omega) (by omega)
  rwa [show UInt8.ofNat ((c.toNat : Int)).toNat = c by rw [Int.toNat_natCast]; exact UInt8.ofNat_toNat] at h
theorem run_f79 (l : List UInt8) (hl : l.length ≤ 1000000) : lex_run.f (B l) 79 = some (((l.takeWhile isN).length : Nat) : Int) := by
  unfold lex_run.f
  rw [if_pos (by rw [sz_B]; exact hl), if_pos rfl]
theorem run_f80 (l : List UInt8) (hl : l.length ≤ 1000000) : lex_run.f (B l) 80 = some (((l.takeWhile isV).length : Nat) : Int) := by
  unfold lex_run.f
  rw [if_pos (by rw [sz_B]; exact hl), if_neg (by decide), if_pos rfl]
theorem run_f53 (l : List UInt8) (hl : l.length ≤ 1000000) : lex_run.f (B l) 53 = some (((l.takeWhile isD).length : Nat) : Int) := by
  unfold lex_run.f
  rw [if_pos (by rw [sz_B]; exact hl), if_neg (by decide), if_neg (by decide), if_pos rfl]
theorem run_f110 (l : List UInt8) (hl : l.length ≤ 1000000) : lex_run.f (B l) 110 = some (((l.takeWhile isP).length : Nat) : Int) := by
  unfold lex_run.f
  rw [if_pos (by rw [sz_B]; exact hl), if_neg (by decide), if_neg (by decide), if_neg (by decide), if_pos rfl]

/-! ### a type's variable -/
theorem variable_f (c : UInt8) (r : List UInt8) (hL : (c :: r).length ≤ 1000000) : ∃ q, lex_variable.f (B (c :: r)) = some q ∧ OneRes (varL r) q := by
  rw [List.length_cons] at hL
  have hle := tw_len isV r
  have htk := tw_take isV r
  unfold lex_variable.f
  have hx : (B (c :: r)).extract 1 (r.length + 1) = B r := by rw [ex_B]; simp
  rw [sz_B, List.length_cons, if_pos (by omega), hx, run_f80 r (by omega), Option.bind_some]
  unfold varL
  obtain ⟨wd, hwd⟩ : ∃ wd, r.takeWhile isV = wd := ⟨_, rfl⟩
  rw [hwd] at hle htk ⊢
  obtain ⟨n, hn⟩ : ∃ n, wd.length = n := ⟨_, rfl⟩
  rw [hn] at hle htk ⊢
  rw [show wrap64 (1 + (n : Int)) = ((n + 1 : Nat) : Int) from (w64 (by omega) (by omega)).trans (by omega)]
  by_cases h30 : 30 < n + 1
  · rw [if_pos (by omega), if_pos (.inl h30)]
    exact ⟨_, rfl, rfl⟩
  rw [if_neg (by omega)]
  by_cases h0 : n = 0
  · have hb : isS (r.headD 0) = false := by
      have hw : wd = [] := List.eq_nil_of_length_eq_zero (by omega)
      cases hb : isS (r.headD 0) with
      | false => rfl
      | true =>
        cases r with
        | nil => exact absurd hb (by decide)
        | cons b q =>
          have : isV b = true := by
            have hb' : isS b = true := hb
            unfold isV; simp [hb']
          rw [List.takeWhile_cons_of_pos this] at hwd
          rw [hw] at hwd; cases hwd
    rw [if_pos (by omega), if_pos (.inr hb)]
    exact ⟨_, rfl, rfl⟩
  rw [if_neg (by omega), if_pos (by omega), bt_B1, lsmall, Option.bind_some]
  have hhd : (c :: r).getD 1 0 = r.headD 0 := by cases r with | nil => rfl | cons b q => rfl
  rw [hhd]
  cases hb : isS (r.headD 0) with
  | false =>
    rw [if_neg (by decide), if_pos (.inr rfl)]
    exact ⟨_, rfl, rfl⟩
  | true =>
    rw [if_pos rfl, if_pos (by omega), if_pos (by omega), if_neg (fun e => e.elim h30 (fun e => Bool.noConfusion e)), Int.toNat_natCast, ex_B, show n + 1 - 1 = n by omega, show (c :: r).drop 1 = r from rfl, htk]
    exact ⟨_, rfl, rfl⟩

/-! ### versions -/
theorem isP_of {b : UInt8} (h : isD b = true) : isP b = true := by unfold isP; simp [h]
theorem vtext_isP (a b c : Nat) : ∀ x ∈ vtext a b c, isP x = true := by
  intro x hx
  unfold vtext at hx
  simp only [List.mem_append, List.mem_cons] at hx
  rcases hx with h | h | h | h | h
  · exact isP_of ((decDigits_facts a).1 x h)
  · subst h; decide
  · exact isP_of ((decDigits_facts b).1 x h)
  · subst h; decide
  · exact isP_of ((decDigits_facts c).1 x h)
theorem tw_prefix {P : UInt8 → Bool} {w r : List UInt8} (hw : ∀ b ∈ w, P b = true) : w.length ≤ ((w ++ r).takeWhile P).length := by
  rw [List.takeWhile_append_of_pos hw]
  simp
/-- The beginnings of a text that are versions: at most one of them has no digit behind it, and it is the longest. -/
theorem ver_longest {l : List UInt8} {n : Nat} (h : versionL l = some n) {m : Nat} (hm : (verL (l.take m)).isSome = true) (hml : m ≤ l.length) : m ≤ n := by
  obtain ⟨a, b, c, r, hl, ha, hb, hc, hr, hn⟩ := versionL_some h
  cases hv : verL (l.take m) with
  | none => rw [hv] at hm; cases hm
  | some x =>
    obtain ⟨a', b', c'⟩ := x
    obtain ⟨ht, ha', hb', hc'⟩ := verL_some hv
    have hsp : l = vtext a' b' c' ++ l.drop m := by rw [← ht]; exact (List.take_append_drop m l).symm
    have hlen : (vtext a' b' c').length = m := by rw [← ht, List.length_take]; omega
    have e1 : numL l = some (a, 46 :: (Lib.decDigits b ++ 46 :: (Lib.decDigits c ++ r))) := by
      rw [hl]; unfold vtext; simp only [List.append_assoc, List.cons_append]; exact numL_dec ha (noD_dot _)
    have e2 : numL l = some (a', 46 :: (Lib.decDigits b' ++ 46 :: (Lib.decDigits c' ++ l.drop m))) := by
      conv => lhs; rw [hsp]
      unfold vtext; simp only [List.append_assoc, List.cons_append]; exact numL_dec ha' (noD_dot _)
    rw [e1] at e2
    simp only [Option.some.injEq, Prod.mk.injEq, List.cons.injEq, true_and] at e2
    obtain ⟨rfl, e3⟩ := e2
    have f1 := numL_dec hb (noD_dot (Lib.decDigits c ++ r))
    have f2 := numL_dec hb' (noD_dot (Lib.decDigits c' ++ l.drop m))
    rw [e3, f2] at f1
    simp only [Option.some.injEq, Prod.mk.injEq, List.cons.injEq, true_and] at f1
    obtain ⟨rfl, f3⟩ := f1
    have g1 := tw_stop (decDigits_facts c).1 hr
    have g2 := tw_prefix (r := l.drop m) (decDigits_facts c').1
    rw [f3, g1] at g2
    rw [hn, ← hlen]
    unfold vtext
    simp only [List.length_append, List.length_cons]
    omega
theorem ver_back {l : List UInt8} {m : Nat} (hm : (verL (l.take m)).isSome = true) (hml : m ≤ l.length) (hd : NoD (l.drop m)) : versionL l = some m := by
  cases hv : verL (l.take m) with
  | none => rw [hv] at hm; cases hm
  | some x =>
    obtain ⟨a, b, c⟩ := x
    obtain ⟨ht, ha, hb, hc⟩ := verL_some hv
    have hlen : (vtext a b c).length = m := by rw [← ht, List.length_take]; omega
    have := versionL_back ha hb hc hd
    rw [← ht, List.take_append_drop, ht, hlen] at this
    exact this
theorem ver_take {l : List UInt8} {n : Nat} (h : versionL l = some n) : (verL (l.take n)).isSome = true ∧ n ≤ (l.takeWhile isP).length ∧ n ≤ l.length ∧ NoD (l.drop n) ∧ 0 < n := by
  obtain ⟨a, b, c, r, hl, ha, hb, hc, hr, hn⟩ := versionL_some h
  have htk : l.take n = vtext a b c := by rw [hl, hn, List.take_left' rfl]
  refine ⟨by rw [htk, verL_text ha hb hc]; rfl, by rw [hl, hn]; exact tw_prefix (vtext_isP a b c), by rw [hl, hn]; simp, by rw [hl, hn, List.drop_left' rfl]; exact hr, ?_⟩
  rw [hn]; unfold vtext; simp; omega

theorem sparse_B (l : List UInt8) (hl : l.length ≤ 1000000) : ∃ a b c, semver_Parse.f (B l) = some (a, b, c, if (verL l).isSome then 0 else 10) := by
  rw [parse_f (B l) (by rw [sz_B]; exact hl)]
  unfold parseR
  rw [show (B l).data.toList = l from rfl]
  cases verL l with
  | none => exact ⟨_, _, _, rfl⟩
  | some x => obtain ⟨a, b, c⟩ := x; exact ⟨_, _, _, rfl⟩
/-- The search from the longest beginning down. -/
theorem version_loop (l : List UInt8) (hl : l.length ≤ 1000000) : ∀ (m k : Nat), m ≤ l.length → m + 1 ≤ k →
    (∃ n, 0 < n ∧ n ≤ m ∧ (verL (l.take n)).isSome = true ∧ (∀ j, n < j → j ≤ m → (verL (l.take j)).isSome = false) ∧ lex_version.l0 k (B l) m = some (6, B (l.take n), 0, 0, (n : Int), true)) ∨
    ((∀ j, 0 < j → j ≤ m → (verL (l.take j)).isSome = false) ∧ lex_version.l0 k (B l) m = some (0, ⟨#[]⟩, 0, 0, 0, false)) := by
  intro m
  induction m with
  | zero =>
    intro k hm hk
    obtain ⟨k, rfl⟩ : ∃ p, k = p + 1 := ⟨k - 1, by omega⟩
    right
    exact ⟨fun j h1 h2 => by omega, by rw [lex_version.l0]; rfl⟩
  | succ m ih =>
    intro k hm hk
    obtain ⟨k, rfl⟩ : ∃ p, k = p + 1 := ⟨k - 1, by omega⟩
    obtain ⟨a, b, c, hp⟩ := sparse_B (l.take (m + 1)) (by rw [List.length_take]; omega)
    have hstep : lex_version.l0 (k + 1) (B l) ((m + 1 : Nat) : Int) = if (verL (l.take (m + 1))).isSome = true then some (6, B (l.take (m + 1)), 0, 0, ((m + 1 : Nat) : Int), true) else lex_version.l0 k (B l) (m : Int) := by
      rw [lex_version.l0, sz_B, if_pos (by omega), if_pos (by omega), if_pos (by omega), Int.toNat_natCast, ex_0, hp, Option.bind_some, show wrap64 (((m + 1 : Nat) : Int) - 1) = (m : Int) from (w64 (by omega) (by omega)).trans (by omega)]
      cases (verL (l.take (m + 1))).isSome <;> rfl
    rw [hstep]
    cases hv : (verL (l.take (m + 1))).isSome with
    | true =>
      left
      exact ⟨m + 1, by omega, by omega, hv, fun j h1 h2 => by omega, rfl⟩
    | false =>
      rw [if_neg (by decide)]
      rcases ih k (by omega) (by omega) with ⟨n, h1, h2, h3, h4, h5⟩ | ⟨h4, h5⟩
      · exact .inl ⟨n, h1, by omega, h3, fun j q1 q2 => by
          rcases Nat.lt_or_ge j (m + 1) with h | h
          · exact h4 j q1 (by omega)
          · rw [show j = m + 1 by omega]; exact hv, h5⟩
      · exact .inr ⟨fun j q1 q2 => by
          rcases Nat.lt_or_ge j (m + 1) with h | h
          · exact h4 j q1 (by omega)
          · rw [show j = m + 1 by omega]; exact hv, h5⟩
theorem lversion (l : List UInt8) (hl : l.length ≤ 1000000) (k : Nat) : lex_version.f k (B l) = lex_version.l0 k (B l) (((l.takeWhile isP).length : Nat) : Int) := by
  unfold lex_version.f
  rw [run_f110 l hl, Option.bind_some]
end Go.Proofs.YtaikpnenegifnaaGreatDoor

/- lex.number: the version or int that LexSpec finds at the front of a text that begins with a digit or a minus sign. -/
namespace Go.Proofs.YtaikpnenegifnaaGreatDoor
set_option linter.unusedSimpArgs false
set_option linter.unusedVariables false
open Go.RowKit Go.Proofs.YtaikpnenegifnaaGreatDoorW.PrintWords Go.Proofs.YtaikpnenegifnaaGreatDoor.XL

theorem decNat_val {d : List UInt8} (hd : ∀ b ∈ d, isD b = true) (hn : d ≠ []) : Lib.decNat d = some (val d) := by
  unfold Lib.decNat
  rw [if_neg (by cases d with | nil => exact absurd rfl hn | cons a b => simp)]
  exact decFrom_val d 0 hd
theorem mag_val {d : List UInt8} (hd : ∀ b ∈ d, isD b = true) (hn : d ≠ []) (h18 : d.length ≤ 18) : Lib.parseMag d = .ok (val d) := by
  rw [Lib.parseMag_short d h18, decNat_val hd hn]
  rfl
theorem atoi_pos {d : List UInt8} (hd : ∀ b ∈ d, isD b = true) (hn : d ≠ []) (h18 : d.length ≤ 18) : strconv_Atoi.f (B d) = some ((val d : Int), none) := by
  have hv := val_lt hd
  have hp : 10 ^ d.length ≤ 10 ^ 18 := Nat.pow_le_pow_right (by decide) h18
  have hm := mag_val hd hn h18
  have ha : Lib.atoiAll d = .ok (val d : Int) := by
    cases d with
    | nil => exact absurd rfl hn
    | cons c r =>
      have hc := (isD_iff c).1 (hd c (by simp))
      have h1 : ¬ (c.toNat = 43 ∨ c.toNat = 45) := by omega
      have h2 : ¬ (c.toNat = 45) := by omega
      unfold Lib.atoiAll
      simp only []
      rw [if_neg h1, hm]
      simp only []
      rw [if_neg (by omega), if_neg (by omega), if_neg h2]
  unfold strconv_Atoi.f
  rw [if_pos (by rw [sz_B]; omega), show (B d).data.toList = d from rfl, ha]
theorem atoi_neg {d : List UInt8} (hd : ∀ b ∈ d, isD b = true) (hn : d ≠ []) (h18 : d.length ≤ 18) : strconv_Atoi.f (B (45 :: d)) = some (-(val d : Int), none) := by
  have hv := val_lt hd
  have hp : 10 ^ d.length ≤ 10 ^ 18 := Nat.pow_le_pow_right (by decide) h18
  have hm := mag_val hd hn h18
  have ha : Lib.atoiAll (45 :: d) = .ok (-(val d : Int)) := by
    have h1 : ((45 : UInt8).toNat = 43 ∨ (45 : UInt8).toNat = 45) := .inr rfl
    have h2 : (45 : UInt8).toNat = 45 := rfl
    unfold Lib.atoiAll
    simp only []
    rw [if_pos h1, hm]
    simp only []
    rw [if_neg (fun e => e.1 h2), if_neg (by omega), if_pos h2]
  unfold strconv_Atoi.f
  rw [if_pos (by rw [sz_B, List.length_cons]; omega), show (B (45 :: d)).data.toList = 45 :: d from rfl, ha]

def numberL (l : List UInt8) : Option (Int × ByteArray × Int × Int × Int × Bool) :=
  match l with
  | [] => none
  | c :: r => if c = 45 ∨ isD c = true then some (match (if c = 45 then negL r else numTokL c (c :: r)) with
      | some ((kd, t, n), m) => (kd, ⟨t.toArray⟩, n, 0, (m : Int), true)
      | none => (0, ⟨#[]⟩, 0, 0, 0, false)) else none
theorem numberL_cons (c : UInt8) (r : List UInt8) : numberL (c :: r) = if c = 45 ∨ isD c = true then some (match (if c = 45 then negL r else numTokL c (c :: r)) with
      | some ((kd, t, n), m) => (kd, ⟨t.toArray⟩, n, 0, (m : Int), true)
      | none => (0, ⟨#[]⟩, 0, 0, 0, false)) else none := rfl
/-- lex.number of a text of at most a million bytes. -/
def lex_number.f (a0 : ByteArray) : Option (Int × ByteArray × Int × Int × Int × Bool) := if a0.size ≤ 1000000 then numberL a0.data.toList else none

theorem number_w (c : UInt8) (r : List UInt8) (hL : (c :: r).length ≤ 1000000) (w : World) (hE : EnvOk w) (r1 : Int) (r2 : ByteArray) (r3 r4 r5 : Int) (r6 : Bool) (h : numberL (c :: r) = some (r1, r2, r3, r4, r5, r6)) :
    Calls Tryz.prog 54 #[.string (B (c :: r))] w fun e w' => e = .returned (.tuple #[.agg #[.int .i64 r1, .string r2, .int .i64 r3, .int .i64 r4], .int .i64 r5, .bool r6]) ∧ Below w.heap.size w w' := by
  obtain ⟨k, hk⟩ : ∃ k, k = 2000000 := ⟨_, rfl⟩
  obtain ⟨L, hLe⟩ : ∃ L, c :: r = L := ⟨_, rfl⟩
  have hlen : r.length + 1 = L.length := by rw [← hLe]; rfl
  have hgetN : ∀ (j : Nat) (hj : j < (B L).size), (((B L)[j]'hj).toNat : Int) = ((L.getD j 0).toNat : Int) := by
    intro j hj
    rw [← bt_B, ← bt_at (B L) (j : Int) (by simpa using hj)]
    rfl
  have hsz : (B L).size = L.length := sz_B L
  have hs : (B L).size ≤ 1000000 := by rw [hsz, ← hLe]; exact hL
  have hlt : 0 < (B L).size := by omega
  have hc : (((B L)[0]'hlt).toNat : Int) = (c.toNat : Int) := by rw [hgetN, ← hLe]; rfl
  have hdrop1 : L.drop 1 = r := by rw [← hLe]; rfl
  rw [hLe]
  rw [numberL_cons] at h
  split at h
  · rename_i hcond
    have h := Option.some.inj h
    have hver := lversion L (by omega) k
    by_cases h45 : c = 45
    · subst h45
      rw [if_pos rfl] at h
      have h45' : (((45 : UInt8).toNat : Nat) : Int) = 45 := rfl
      have hrun : (L.takeWhile isP).length = 0 := by rw [← hLe, List.takeWhile_cons_of_neg (by decide)]; rfl
      have hV : lex_version.f k (B L) = some (0, ⟨#[]⟩, 0, 0, 0, false) := by
        rw [hver, hrun]
        obtain ⟨q, rfl⟩ : ∃ q, k = q + 1 := ⟨k - 1, by omega⟩
        rw [lex_version.l0]; rfl
      have hle := tw_len isD r
      have htk := tw_take isD r
      have hall := tw_all isD r
      have hR : lex_run.f ((B L).extract 1 (B L).size) 53 = some (((r.takeWhile isD).length : Nat) : Int) := by
        rw [ex_end, hdrop1, run_f53 r (by omega)]
      obtain ⟨d, hd⟩ : ∃ d, r.takeWhile isD = d := ⟨_, rfl⟩
      have hhd : d ≠ [] → d.headD 0 = r.headD 0 := fun e => by rw [← hd]; exact head_tw (by rw [hd]; exact e)
      unfold negL intL at h
      rw [hd] at hR hle h htk hall
      obtain ⟨n, hn⟩ : ∃ n, d.length = n := ⟨_, rfl⟩
      have hd0 : d = [] ↔ n = 0 := ⟨fun e => by rw [← hn, e]; rfl, fun e => List.eq_nil_of_length_eq_zero (by omega)⟩
      rw [hn] at hR hle h htk
      have hx1 : (B L).extract 1 (1 + n) = B d := by rw [ex_B, hdrop1, show 1 + n - 1 = n by omega, htk]
      have hx0 : (B L).extract 0 (1 + n) = B (45 :: d) := by rw [ex_0, ← hLe, show 1 + n = n + 1 by omega, List.take_succ_cons, htk]
      by_cases h0 : n = 0
      · rw [if_pos (.inl (hd0.2 h0))] at h
        simp only [Prod.mk.injEq] at h
        obtain ⟨rfl, rfl, rfl, rfl, rfl, rfl⟩ := h
        rw [h0] at hR
        exact num_m_0 (B L) k w hE hs hlt _ hc _ _ _ _ _ hV h45' hR (by omega)
      by_cases h18 : 18 < n
      · rw [if_pos (.inr (.inl h18))] at h
        simp only [Prod.mk.injEq] at h
        obtain ⟨rfl, rfl, rfl, rfl, rfl, rfl⟩ := h
        exact num_m_18 (B L) k w hE hs hlt _ hc _ _ _ _ _ hV h45' n hR (by omega) h18
      have hdn : d ≠ [] := fun e => h0 (hd0.1 e)
      have hatoi := atoi_neg hall hdn (by omega)
      by_cases h1 : 1 < n
      · have hdx : 0 < ((B L).extract 1 (1 + n)).size := by rw [hx1, sz_B]; omega
        have hb0 : ((((B L).extract 1 (1 + n))[0]'hdx).toNat : Int) = ((r.headD 0).toNat : Int) := by
          have e := bt_at ((B L).extract 1 (1 + n)) 0 hdx
          rw [← hhd hdn]
          have e2 : bt ((B L).extract 1 (1 + n)) 0 = ((d.headD 0).toNat : Int) := by rw [hx1, bt_B0]; cases d <;> rfl
          rw [← e2]; exact e
        by_cases h48 : r.headD 0 = 48
        · rw [if_pos (.inr (.inr ⟨h1, h48⟩))] at h
          simp only [Prod.mk.injEq] at h
          obtain ⟨rfl, rfl, rfl, rfl, rfl, rfl⟩ := h
          exact num_m_48 (B L) k w hE hs hlt _ hc _ _ _ _ _ hV h45' n hR (by omega) (by omega) h1 hdx _ hb0 (by rw [h48]; rfl)
        · rw [if_neg (fun e => e.elim hdn (fun e => e.elim h18 (fun e => h48 e.2)))] at h
          simp only [h48, if_false] at h
          simp only [Prod.mk.injEq] at h
          obtain ⟨rfl, rfl, rfl, rfl, rfl, rfl⟩ := h
          have hU : (((B L).extract 1 (1 + n)).toList == ([48] : List UInt8)) = false := by
            rw [hx1, tl_B, beq_eq_false_iff_ne]
            intro e
            rw [e] at hn
            simp at hn
            omega
          have := num_m_more (B L) k w hE hs hlt _ hc _ _ _ _ _ hV h45' n hR (by omega) (by omega) h1 hdx _ hb0 (ne48 h48) hU _ (by rw [hx0]; exact hatoi)
          rw [show ((n + 1 : Nat) : Int) = (1 : Int) + (n : Int) by omega]
          exact this
      · have hn1 : n = 1 := by omega
        subst hn1
        rw [if_neg (fun e => e.elim hdn (fun e => e.elim h18 (fun e => h1 e.1)))] at h
        obtain ⟨b, hb⟩ : ∃ b, d = [b] := by
          cases d with
          | nil => exact absurd rfl hdn
          | cons b q =>
            cases q with
            | nil => exact ⟨b, rfl⟩
            | cons _ _ => simp at hn
        have hrb : r.headD 0 = b := by rw [← hhd hdn, hb]; rfl
        by_cases h48 : b = 48
        · rw [hrb] at h
          simp only [h48, if_true] at h
          simp only [Prod.mk.injEq] at h
          obtain ⟨rfl, rfl, rfl, rfl, rfl, rfl⟩ := h
          exact num_m_zero (B L) k w hE hs hlt _ hc _ _ _ _ _ hV h45' hR (by omega) (by rw [show (B L).extract 1 2 = B d from hx1, tl_B, hb, h48]; rfl)
        · rw [hrb] at h
          simp only [h48, if_false] at h
          simp only [Prod.mk.injEq] at h
          obtain ⟨rfl, rfl, rfl, rfl, rfl, rfl⟩ := h
          exact num_m_one (B L) k w hE hs hlt _ hc _ _ _ _ _ hV h45' hR (by omega) (by rw [show (B L).extract 1 2 = B d from hx1, tl_B, hb, beq_eq_false_iff_ne]; intro e; simp at e; exact h48 e) _ (by rw [show (B L).extract 0 2 = B (45 :: d) from hx0]; exact hatoi)
    · rw [if_neg h45] at h
      have hDc : isD c = true := hcond.resolve_left h45
      have h45' := ne45 h45
      have hle := tw_len isD (c :: r)
      have htk := tw_take isD (c :: r)
      have hall := tw_all isD (c :: r)
      have hcons : (c :: r).takeWhile isD = c :: r.takeWhile isD := List.takeWhile_cons_of_pos hDc
      rw [hLe] at hle htk hall hcons
      have hR : lex_run.f (B L) 53 = some (((L.takeWhile isD).length : Nat) : Int) := run_f53 L (by omega)
      obtain ⟨d, hd⟩ : ∃ d, L.takeWhile isD = d := ⟨_, rfl⟩
      rw [hd] at hR hle htk hall hcons
      obtain ⟨n, hn⟩ : ∃ n, d.length = n := ⟨_, rfl⟩
      have hd0 : d ≠ [] := by rw [hcons]; simp
      have hn0 : 0 < n := by rw [← hn]; exact List.length_pos_iff.2 hd0
      rw [hn] at hR hle htk
      have hx0 : (B L).extract 0 n = B d := by rw [ex_0, htk]
      have hdx : 0 < ((B L).extract 0 n).size := by rw [hx0, sz_B]; omega
      have hb0 : ((((B L).extract 0 n)[0]'hdx).toNat : Int) = (c.toNat : Int) := by
        have e := bt_at ((B L).extract 0 n) 0 hdx
        have e2 : bt ((B L).extract 0 n) 0 = (c.toNat : Int) := by rw [hx0, bt_B0, hcons]; rfl
        rw [← e2]; exact e
      have hlP := tw_len isP L
      -- what follows where there is no version
      have cont : versionL L = none →
          (∃ (t : ByteArray) (m : Nat) (hm : m < (B L).size), lex_version.f k (B L) = some (6, t, 0, 0, (m : Int), true) ∧ lex_digit.f (((B L)[m]'hm).toNat : Int) = some true) ∨ (lex_version.f k (B L) = some (0, ⟨#[]⟩, 0, 0, 0, false)) →
          Calls Tryz.prog 54 #[.string (B L)] w fun e w' => e = .returned (.tuple #[.agg #[.int .i64 r1, .string r2, .int .i64 r3, .int .i64 r4], .int .i64 r5, .bool r6]) ∧ Below w.heap.size w w' := by
        intro hv hway
        unfold numTokL at h
        rw [hLe, hv] at h
        unfold intL at h
        rw [hd, hn] at h
        have hLh : L.headD 0 = c := by rw [← hLe]; rfl
        rw [hLh] at h
        by_cases h18 : 18 < n
        · rw [if_pos (.inr (.inl h18))] at h
          simp only [Option.map_none, Prod.mk.injEq] at h
          obtain ⟨rfl, rfl, rfl, rfl, rfl, rfl⟩ := h
          rcases hway with ⟨t, m, hm, hV, hD⟩ | hV
          · exact num_a_18 (B L) k w hE hs hlt _ hc t m hV hm hD h45' n hR (by omega) h18
          · exact num_b_18 (B L) k w hE hs hlt _ hc _ _ _ _ _ hV h45' n hR (by omega) h18
        have hatoi := atoi_pos hall hd0 (by omega)
        by_cases h1 : 1 < n
        · by_cases h48 : c = 48
          · rw [if_pos (.inr (.inr ⟨h1, h48⟩))] at h
            simp only [Option.map_none, Prod.mk.injEq] at h
            obtain ⟨rfl, rfl, rfl, rfl, rfl, rfl⟩ := h
            have h48' : (c.toNat : Int) = 48 := by rw [h48]; rfl
            rcases hway with ⟨t, m, hm, hV, hD⟩ | hV
            · exact num_a_48 (B L) k w hE hs hlt _ hc t m hV hm hD h45' n hR (by omega) (by omega) h1 h48' hdx hb0
            · exact num_b_48 (B L) k w hE hs hlt _ hc _ _ _ _ _ hV h45' n hR (by omega) (by omega) h1 h48' hdx hb0
          · rw [if_neg (fun e => e.elim hd0 (fun e => e.elim h18 (fun e => h48 e.2)))] at h
            simp only [Option.map_some, Prod.mk.injEq] at h
            obtain ⟨rfl, rfl, rfl, rfl, rfl, rfl⟩ := h
            rcases hway with ⟨t, m, hm, hV, hD⟩ | hV
            · exact num_a_more (B L) k w hE hs hlt _ hc t m hV hm hD h45' n hR (by omega) (by omega) h1 (ne48 h48) hdx hb0 _ (by rw [hx0]; exact hatoi)
            · exact num_b_more (B L) k w hE hs hlt _ hc _ _ _ _ _ hV h45' n hR (by omega) (by omega) h1 (ne48 h48) hdx hb0 _ (by rw [hx0]; exact hatoi)
        · have hn1 : n = 1 := by omega
          subst hn1
          rw [if_neg (fun e => e.elim hd0 (fun e => e.elim h18 (fun e => h1 e.1)))] at h
          simp only [Option.map_some, Prod.mk.injEq] at h
          obtain ⟨rfl, rfl, rfl, rfl, rfl, rfl⟩ := h
          rcases hway with ⟨t, m, hm, hV, hD⟩ | hV
          · exact num_a_one (B L) k w hE hs hlt _ hc t m hV hm hD h45' hR _ (by rw [hx0]; exact hatoi)
          · exact num_b_one (B L) k w hE hs hlt _ hc _ _ _ _ _ hV h45' hR _ (by rw [hx0]; exact hatoi)
      rcases version_loop L (by omega) (L.takeWhile isP).length k hlP (by omega) with ⟨m, q1, q2, q3, q4, q5⟩ | ⟨q4, q5⟩
      · rw [← hver] at q5
        by_cases hend : m = L.length
        · have hv := ver_back q3 (by omega) (by rw [List.drop_of_length_le (by omega)]; exact noD_nil)
          unfold numTokL at h
          rw [hLe, hv] at h
          simp only [Prod.mk.injEq] at h
          obtain ⟨rfl, rfl, rfl, rfl, rfl, rfl⟩ := h
          exact num_v_end (B L) k w hE hs hlt _ hc _ m q5 (by omega)
        have hm : m < (B L).size := by omega
        have hdn := drop_cons (L := L) (i := m) (by omega)
        have hDm : lex_digit.f (((B L)[m]'hm).toNat : Int) = some (isD (L.getD m 0)) := by rw [hgetN]; exact ldigit _
        cases hdg : isD (L.getD m 0) with
        | false =>
          have hv := ver_back q3 (by omega) (by rw [hdn]; intro b hb; simp at hb; rw [← hb]; exact hdg)
          unfold numTokL at h
          rw [hLe, hv] at h
          simp only [Prod.mk.injEq] at h
          obtain ⟨rfl, rfl, rfl, rfl, rfl, rfl⟩ := h
          rw [hdg] at hDm
          exact num_v (B L) k w hE hs hlt _ hc _ m q5 hm hDm
        | true =>
          rw [hdg] at hDm
          refine cont ?_ (.inl ⟨_, m, hm, q5, hDm⟩)
          cases hv : versionL L with
          | none => rfl
          | some p =>
            exfalso
            obtain ⟨p1, p2, p3, p4, p5⟩ := ver_take hv
            have u1 := ver_longest hv q3 (by omega)
            rcases Nat.lt_or_ge m p with hlt' | hge
            · rw [q4 p hlt' p2] at p1; cases p1
            · have : p = m := by omega
              subst this
              rw [hdn] at p4
              have := p4 _ rfl
              rw [hdg] at this; cases this
      · rw [← hver] at q5
        refine cont ?_ (.inr q5)
        cases hv : versionL L with
        | none => rfl
        | some p =>
          exfalso
          obtain ⟨p1, p2, p3, p4, p5⟩ := ver_take hv
          rw [q4 p p5 p2] at p1; cases p1
  · cases h
theorem lex_number.calls (a0 : ByteArray) (r1 : Int) (r2 : ByteArray) (r3 r4 r5 : Int) (r6 : Bool) (w : World) (hE : EnvOk w) (h : lex_number.f a0 = some (r1, r2, r3, r4, r5, r6)) :
    Calls Tryz.prog 54 #[.string a0] w fun e w' => e = .returned (.tuple #[.agg #[.int .i64 r1, .string r2, .int .i64 r3, .int .i64 r4], .int .i64 r5, .bool r6]) ∧ Below w.heap.size w w' := by
  unfold lex_number.f at h
  split at h
  · rename_i hs
    obtain ⟨L, hL⟩ : ∃ L, a0 = B L := ⟨_, B_of a0⟩
    subst hL
    rw [sz_B] at hs
    rw [show (B L).data.toList = L from rfl] at h
    cases L with
    | nil => cases h
    | cons c r => exact number_w c r hs w hE r1 r2 r3 r4 r5 r6 h
  · cases h
end Go.Proofs.YtaikpnenegifnaaGreatDoor

/- lex.one: the token at the front of a text, by its first byte. -/
namespace Go.Proofs.YtaikpnenegifnaaGreatDoor
set_option linter.unusedSimpArgs false
set_option linter.unusedVariables false
open Go.RowKit Go.Proofs.YtaikpnenegifnaaGreatDoorW.PrintWords Go.Proofs.YtaikpnenegifnaaGreatDoor.XL

set_option maxRecDepth 100000 in
set_option maxHeartbeats 1000000 in
theorem lone_name_a (s : ByteArray) (w : World) (hE : EnvOk w) (hs : s.size ≤ 1000000) (hlt : 0 < s.size) (c : Int) (hc : ((s[0]'hlt).toNat : Int) = c) (hS : lex_small.f c = some true) (r1 : Int) (r2 : ByteArray) (r3 r4 r5 : Int) (r6 : Bool) (hN : lex_name.f s = some (r1, r2, r3, r4, r5, r6)) :
    Calls Tryz.prog 31 #[.string s] w fun e w' => e = .returned (.tuple #[.agg #[.int .i64 r1, .string r2, .int .i64 r3, .int .i64 r4], .int .i64 r5, .bool r6]) ∧ Below w.heap.size w w' := by
  have q2 : ((0 : Int) < (s.size : Int)) = True := eq_true (by omega)
  have HS := Aside0.mk hS
  have HN := Aside0.mk hN
  clear hS hN
  go_enter Tryz.func31, Tryz.ntmps31
  go_wp2_with (first | (go_at_call 47; refine (lex_small.calls _ true _ HS.out).mono ?_; rintro e w2 ⟨rfl, nd, rfl⟩) | (go_at_call 49; refine (lex_name.calls s r1 r2 r3 r4 r5 r6 _ HN.out).mono ?_; rintro e w1 ⟨rfl, hb⟩; have HB1 : Aside0 (Box4 w w1 (.int .i64 0) (.string ⟨#[]⟩) (.int .i64 0) (.int .i64 0)) := ⟨by first | exact Box4.start hb | exact Box4.start1 hb | exact Box4.start2 hb | exact Box4.start3 hb | exact Box4.start4 hb | exact Box4.start5 hb | exact Box4.start6 hb⟩; clear hb; obtain ⟨m10, m11, m12, m13, g10, g11, g12, g13, lt1, _⟩ := HB1.out))
  refine bodyPost_ret (v := (.tuple #[.agg #[.int .i64 r1, .string r2, .int .i64 r3, .int .i64 r4], .int .i64 r5, .bool r6])) (by simp [results, Tryz.results31, go_sem, m10, m11, m12, m13]) rfl ⟨rfl, ?_⟩
  repeat (first | exact HB1.out.bel | refine Below.setCell ?_ (by simp) _ | refine pw_below_drewN ?_ _ | exact (Below.refl _ _).alloc (Nat.le_refl _) _)

set_option maxRecDepth 100000 in
set_option maxHeartbeats 1000000 in
theorem lone_name_b (s : ByteArray) (w : World) (hE : EnvOk w) (hs : s.size ≤ 1000000) (hlt : 0 < s.size) (c : Int) (hc : ((s[0]'hlt).toNat : Int) = c) (hS : lex_small.f c = some false) (hG : lex_great.f c = some true) (r1 : Int) (r2 : ByteArray) (r3 r4 r5 : Int) (r6 : Bool) (hN : lex_name.f s = some (r1, r2, r3, r4, r5, r6)) :
    Calls Tryz.prog 31 #[.string s] w fun e w' => e = .returned (.tuple #[.agg #[.int .i64 r1, .string r2, .int .i64 r3, .int .i64 r4], .int .i64 r5, .bool r6]) ∧ Below w.heap.size w w' := by
  have q2 : ((0 : Int) < (s.size : Int)) = True := eq_true (by omega)
  have HS := Aside0.mk hS
  have HG := Aside0.mk hG
  have HN := Aside0.mk hN
  clear hS hG hN
  go_enter Tryz.func31, Tryz.ntmps31
  go_wp2_with (first | (go_at_call 47; refine (lex_small.calls _ false _ HS.out).mono ?_; rintro e w2 ⟨rfl, nd, rfl⟩) | (go_at_call 48; refine (lex_great.calls _ true _ HG.out).mono ?_; rintro e w2 ⟨rfl, nd, rfl⟩) | (go_at_call 49; refine (lex_name.calls s r1 r2 r3 r4 r5 r6 _ HN.out).mono ?_; rintro e w1 ⟨rfl, hb⟩; have HB1 : Aside0 (Box4 w w1 (.int .i64 0) (.string ⟨#[]⟩) (.int .i64 0) (.int .i64 0)) := ⟨by first | exact Box4.start hb | exact Box4.start1 hb | exact Box4.start2 hb | exact Box4.start3 hb | exact Box4.start4 hb | exact Box4.start5 hb | exact Box4.start6 hb⟩; clear hb; obtain ⟨m10, m11, m12, m13, g10, g11, g12, g13, lt1, _⟩ := HB1.out))
  refine bodyPost_ret (v := (.tuple #[.agg #[.int .i64 r1, .string r2, .int .i64 r3, .int .i64 r4], .int .i64 r5, .bool r6])) (by simp [results, Tryz.results31, go_sem, m10, m11, m12, m13]) rfl ⟨rfl, ?_⟩
  repeat (first | exact HB1.out.bel | refine Below.setCell ?_ (by simp) _ | refine pw_below_drewN ?_ _ | exact (Below.refl _ _).alloc (Nat.le_refl _) _)

set_option maxRecDepth 100000 in
set_option maxHeartbeats 1000000 in
theorem lone_name_c (s : ByteArray) (w : World) (hE : EnvOk w) (hs : s.size ≤ 1000000) (hlt : 0 < s.size) (c : Int) (hc : ((s[0]'hlt).toNat : Int) = c) (hS : lex_small.f c = some false) (hG : lex_great.f c = some false) (h95 : c = 95) (r1 : Int) (r2 : ByteArray) (r3 r4 r5 : Int) (r6 : Bool) (hN : lex_name.f s = some (r1, r2, r3, r4, r5, r6)) :
    Calls Tryz.prog 31 #[.string s] w fun e w' => e = .returned (.tuple #[.agg #[.int .i64 r1, .string r2, .int .i64 r3, .int .i64 r4], .int .i64 r5, .bool r6]) ∧ Below w.heap.size w w' := by
  have q2 : ((0 : Int) < (s.size : Int)) = True := eq_true (by omega)
  have HS := Aside0.mk hS
  have HG := Aside0.mk hG
  have HN := Aside0.mk hN
  clear hS hG hN
  have e95 : (c == 95) = true := by first | (rw [beq_eq_false_iff_ne]; exact h95) | (rw [beq_iff_eq]; exact h95)
  clear h95
  go_enter Tryz.func31, Tryz.ntmps31
  go_wp2_with (first | (go_at_call 47; refine (lex_small.calls _ false _ HS.out).mono ?_; rintro e w2 ⟨rfl, nd, rfl⟩) | (go_at_call 48; refine (lex_great.calls _ false _ HG.out).mono ?_; rintro e w2 ⟨rfl, nd, rfl⟩) | (go_at_call 49; refine (lex_name.calls s r1 r2 r3 r4 r5 r6 _ HN.out).mono ?_; rintro e w1 ⟨rfl, hb⟩; have HB1 : Aside0 (Box4 w w1 (.int .i64 0) (.string ⟨#[]⟩) (.int .i64 0) (.int .i64 0)) := ⟨by first | exact Box4.start hb | exact Box4.start1 hb | exact Box4.start2 hb | exact Box4.start3 hb | exact Box4.start4 hb | exact Box4.start5 hb | exact Box4.start6 hb⟩; clear hb; obtain ⟨m10, m11, m12, m13, g10, g11, g12, g13, lt1, _⟩ := HB1.out))
  refine bodyPost_ret (v := (.tuple #[.agg #[.int .i64 r1, .string r2, .int .i64 r3, .int .i64 r4], .int .i64 r5, .bool r6])) (by simp [results, Tryz.results31, go_sem, m10, m11, m12, m13]) rfl ⟨rfl, ?_⟩
  repeat (first | exact HB1.out.bel | refine Below.setCell ?_ (by simp) _ | refine pw_below_drewN ?_ _ | exact (Below.refl _ _).alloc (Nat.le_refl _) _)

set_option maxRecDepth 100000 in
set_option maxHeartbeats 1000000 in
theorem lone_var (s : ByteArray) (w : World) (hE : EnvOk w) (hs : s.size ≤ 1000000) (hlt : 0 < s.size) (c : Int) (hc : ((s[0]'hlt).toNat : Int) = c) (hS : lex_small.f c = some false) (hG : lex_great.f c = some false) (h95 : c ≠ 95) (h39 : c = 39) (r1 : Int) (r2 : ByteArray) (r3 r4 r5 : Int) (r6 : Bool) (hN : lex_variable.f s = some (r1, r2, r3, r4, r5, r6)) :
    Calls Tryz.prog 31 #[.string s] w fun e w' => e = .returned (.tuple #[.agg #[.int .i64 r1, .string r2, .int .i64 r3, .int .i64 r4], .int .i64 r5, .bool r6]) ∧ Below w.heap.size w w' := by
  have q2 : ((0 : Int) < (s.size : Int)) = True := eq_true (by omega)
  have HS := Aside0.mk hS
  have HG := Aside0.mk hG
  have HN := Aside0.mk hN
  clear hS hG hN
  have e95 : (c == 95) = false := by first | (rw [beq_eq_false_iff_ne]; exact h95) | (rw [beq_iff_eq]; exact h95)
  have e39 : (c == 39) = true := by first | (rw [beq_eq_false_iff_ne]; exact h39) | (rw [beq_iff_eq]; exact h39)
  clear h95 h39
  go_enter Tryz.func31, Tryz.ntmps31
  go_wp2_with (first | (go_at_call 47; refine (lex_small.calls _ false _ HS.out).mono ?_; rintro e w2 ⟨rfl, nd, rfl⟩) | (go_at_call 48; refine (lex_great.calls _ false _ HG.out).mono ?_; rintro e w2 ⟨rfl, nd, rfl⟩) | (go_at_call 50; refine (lex_variable.calls s r1 r2 r3 r4 r5 r6 _ HN.out).mono ?_; rintro e w1 ⟨rfl, hb⟩; have HB1 : Aside0 (Box4 w w1 (.int .i64 0) (.string ⟨#[]⟩) (.int .i64 0) (.int .i64 0)) := ⟨by first | exact Box4.start hb | exact Box4.start1 hb | exact Box4.start2 hb | exact Box4.start3 hb | exact Box4.start4 hb | exact Box4.start5 hb | exact Box4.start6 hb⟩; clear hb; obtain ⟨m10, m11, m12, m13, g10, g11, g12, g13, lt1, _⟩ := HB1.out))
  refine bodyPost_ret (v := (.tuple #[.agg #[.int .i64 r1, .string r2, .int .i64 r3, .int .i64 r4], .int .i64 r5, .bool r6])) (by simp [results, Tryz.results31, go_sem, m10, m11, m12, m13]) rfl ⟨rfl, ?_⟩
  repeat (first | exact HB1.out.bel | refine Below.setCell ?_ (by simp) _ | refine pw_below_drewN ?_ _ | exact (Below.refl _ _).alloc (Nat.le_refl _) _)

set_option maxRecDepth 100000 in
set_option maxHeartbeats 1000000 in
theorem lone_text (s : ByteArray) (w : World) (hE : EnvOk w) (hs : s.size ≤ 1000000) (hlt : 0 < s.size) (c : Int) (hc : ((s[0]'hlt).toNat : Int) = c) (hS : lex_small.f c = some false) (hG : lex_great.f c = some false) (h95 : c ≠ 95) (h39 : c ≠ 39) (h34 : c = 34) (k : Nat) (r1 : Int) (r2 : ByteArray) (r3 r4 r5 : Int) (r6 : Bool) (hN : lex_text.f k s = some (r1, r2, r3, r4, r5, r6)) :
    Calls Tryz.prog 31 #[.string s] w fun e w' => e = .returned (.tuple #[.agg #[.int .i64 r1, .string r2, .int .i64 r3, .int .i64 r4], .int .i64 r5, .bool r6]) ∧ Below w.heap.size w w' := by
  have q2 : ((0 : Int) < (s.size : Int)) = True := eq_true (by omega)
  have HS := Aside0.mk hS
  have HG := Aside0.mk hG
  have HN := Aside0.mk hN
  clear hS hG hN
  have e95 : (c == 95) = false := by first | (rw [beq_eq_false_iff_ne]; exact h95) | (rw [beq_iff_eq]; exact h95)
  have e39 : (c == 39) = false := by first | (rw [beq_eq_false_iff_ne]; exact h39) | (rw [beq_iff_eq]; exact h39)
  have e34 : (c == 34) = true := by first | (rw [beq_eq_false_iff_ne]; exact h34) | (rw [beq_iff_eq]; exact h34)
  clear h95 h39 h34
  go_enter Tryz.func31, Tryz.ntmps31
  go_wp2_with (first | (go_at_call 47; refine (lex_small.calls _ false _ HS.out).mono ?_; rintro e w2 ⟨rfl, nd, rfl⟩) | (go_at_call 48; refine (lex_great.calls _ false _ HG.out).mono ?_; rintro e w2 ⟨rfl, nd, rfl⟩) | (go_at_call 51; refine (lex_text.calls k s r1 r2 r3 r4 r5 r6 _ HN.out).mono ?_; rintro e w1 ⟨rfl, hb⟩; have HB1 : Aside0 (Box4 w w1 (.int .i64 0) (.string ⟨#[]⟩) (.int .i64 0) (.int .i64 0)) := ⟨by first | exact Box4.start hb | exact Box4.start1 hb | exact Box4.start2 hb | exact Box4.start3 hb | exact Box4.start4 hb | exact Box4.start5 hb | exact Box4.start6 hb⟩; clear hb; obtain ⟨m10, m11, m12, m13, g10, g11, g12, g13, lt1, _⟩ := HB1.out))
  refine bodyPost_ret (v := (.tuple #[.agg #[.int .i64 r1, .string r2, .int .i64 r3, .int .i64 r4], .int .i64 r5, .bool r6])) (by simp [results, Tryz.results31, go_sem, m10, m11, m12, m13]) rfl ⟨rfl, ?_⟩
  repeat (first | exact HB1.out.bel | refine Below.setCell ?_ (by simp) _ | refine pw_below_drewN ?_ _ | exact (Below.refl _ _).alloc (Nat.le_refl _) _)

set_option maxRecDepth 100000 in
set_option maxHeartbeats 1000000 in
theorem lone_arrow (s : ByteArray) (w : World) (hE : EnvOk w) (hs : s.size ≤ 1000000) (hlt : 0 < s.size) (c : Int) (hc : ((s[0]'hlt).toNat : Int) = c) (hS : lex_small.f c = some false) (hG : lex_great.f c = some false) (h95 : c ≠ 95) (h39 : c ≠ 39) (h34 : c ≠ 34) (h45 : c = 45) (hP : strings_HasPrefix.f s ⟨#[45, 62]⟩ = some true)  :
    Calls Tryz.prog 31 #[.string s] w fun e w' => e = .returned (.tuple #[.agg #[.int .i64 8, .string ⟨#[45, 62]⟩, .int .i64 0, .int .i64 0], .int .i64 2, .bool true]) ∧ Below w.heap.size w w' := by
  have q2 : ((0 : Int) < (s.size : Int)) = True := eq_true (by omega)
  have HS := Aside0.mk hS
  have HG := Aside0.mk hG
  have HP := Aside0.mk hP
  clear hS hG hP
  have e95 : (c == 95) = false := by first | (rw [beq_eq_false_iff_ne]; exact h95) | (rw [beq_iff_eq]; exact h95)
  have e39 : (c == 39) = false := by first | (rw [beq_eq_false_iff_ne]; exact h39) | (rw [beq_iff_eq]; exact h39)
  have e34 : (c == 34) = false := by first | (rw [beq_eq_false_iff_ne]; exact h34) | (rw [beq_iff_eq]; exact h34)
  have e45 : (c == 45) = true := by first | (rw [beq_eq_false_iff_ne]; exact h45) | (rw [beq_iff_eq]; exact h45)
  clear h95 h39 h34 h45
  go_enter Tryz.func31, Tryz.ntmps31
  go_wp2_with (first | (go_at_call 47; refine (lex_small.calls _ false _ HS.out).mono ?_; rintro e w2 ⟨rfl, nd, rfl⟩) | (go_at_call 48; refine (lex_great.calls _ false _ HG.out).mono ?_; rintro e w2 ⟨rfl, nd, rfl⟩) | (go_at_call 52; refine (strings_HasPrefix.calls s ⟨#[45, 62]⟩ true _ HP.out).mono ?_; rintro e w2 ⟨rfl, nd, rfl⟩))
  refine bodyPost_ret (v := (.tuple #[.agg #[.int .i64 8, .string ⟨#[45, 62]⟩, .int .i64 0, .int .i64 0], .int .i64 2, .bool true])) (by simp [results, Tryz.results31, go_sem]) rfl ⟨rfl, ?_⟩
  repeat (first | refine Below.setCell ?_ (by simp) _ | refine pw_below_drewN ?_ _ | exact (Below.refl _ _).alloc (Nat.le_refl _) _)

set_option maxRecDepth 100000 in
set_option maxHeartbeats 1000000 in
theorem lone_neg (s : ByteArray) (w : World) (hE : EnvOk w) (hs : s.size ≤ 1000000) (hlt : 0 < s.size) (c : Int) (hc : ((s[0]'hlt).toNat : Int) = c) (hS : lex_small.f c = some false) (hG : lex_great.f c = some false) (h95 : c ≠ 95) (h39 : c ≠ 39) (h34 : c ≠ 34) (h45 : c = 45) (hP : strings_HasPrefix.f s ⟨#[45, 62]⟩ = some false) (r1 : Int) (r2 : ByteArray) (r3 r4 r5 : Int) (r6 : Bool) (hN : lex_number.f s = some (r1, r2, r3, r4, r5, r6)) :
    Calls Tryz.prog 31 #[.string s] w fun e w' => e = .returned (.tuple #[.agg #[.int .i64 r1, .string r2, .int .i64 r3, .int .i64 r4], .int .i64 r5, .bool r6]) ∧ Below w.heap.size w w' := by
  have q2 : ((0 : Int) < (s.size : Int)) = True := eq_true (by omega)
  have HS := Aside0.mk hS
  have HG := Aside0.mk hG
  have HP := Aside0.mk hP
  have HN := Aside0.mk hN
  clear hS hG hP hN
  have e95 : (c == 95) = false := by first | (rw [beq_eq_false_iff_ne]; exact h95) | (rw [beq_iff_eq]; exact h95)
  have e39 : (c == 39) = false := by first | (rw [beq_eq_false_iff_ne]; exact h39) | (rw [beq_iff_eq]; exact h39)
  have e34 : (c == 34) = false := by first | (rw [beq_eq_false_iff_ne]; exact h34) | (rw [beq_iff_eq]; exact h34)
  have e45 : (c == 45) = true := by first | (rw [beq_eq_false_iff_ne]; exact h45) | (rw [beq_iff_eq]; exact h45)
  clear h95 h39 h34 h45
  go_enter Tryz.func31, Tryz.ntmps31
  go_wp2_with (first | (go_at_call 47; refine (lex_small.calls _ false _ HS.out).mono ?_; rintro e w2 ⟨rfl, nd, rfl⟩) | (go_at_call 48; refine (lex_great.calls _ false _ HG.out).mono ?_; rintro e w2 ⟨rfl, nd, rfl⟩) | (go_at_call 52; refine (strings_HasPrefix.calls s ⟨#[45, 62]⟩ false _ HP.out).mono ?_; rintro e w2 ⟨rfl, nd, rfl⟩) | (go_at_call 54; refine (lex_number.calls s r1 r2 r3 r4 r5 r6 _ ?ce HN.out).mono ?_; (case ce => (refine hE.below ?_; repeat (first | refine pw_below_drewN ?_ _ | exact (Below.refl _ _).alloc (Nat.le_refl _) _))); rintro e w1 ⟨rfl, hb⟩; have HB1 : Aside0 (Box4 w w1 (.int .i64 0) (.string ⟨#[]⟩) (.int .i64 0) (.int .i64 0)) := ⟨by first | exact Box4.start hb | exact Box4.start1 hb | exact Box4.start2 hb | exact Box4.start3 hb | exact Box4.start4 hb | exact Box4.start5 hb | exact Box4.start6 hb⟩; clear hb; obtain ⟨m10, m11, m12, m13, g10, g11, g12, g13, lt1, _⟩ := HB1.out))
  refine bodyPost_ret (v := (.tuple #[.agg #[.int .i64 r1, .string r2, .int .i64 r3, .int .i64 r4], .int .i64 r5, .bool r6])) (by simp [results, Tryz.results31, go_sem, m10, m11, m12, m13]) rfl ⟨rfl, ?_⟩
  repeat (first | exact HB1.out.bel | refine Below.setCell ?_ (by simp) _ | refine pw_below_drewN ?_ _ | exact (Below.refl _ _).alloc (Nat.le_refl _) _)

set_option maxRecDepth 100000 in
set_option maxHeartbeats 1000000 in
theorem lone_int (s : ByteArray) (w : World) (hE : EnvOk w) (hs : s.size ≤ 1000000) (hlt : 0 < s.size) (c : Int) (hc : ((s[0]'hlt).toNat : Int) = c) (hS : lex_small.f c = some false) (hG : lex_great.f c = some false) (h95 : c ≠ 95) (h39 : c ≠ 39) (h34 : c ≠ 34) (h45 : c ≠ 45) (hD : lex_digit.f c = some true) (r1 : Int) (r2 : ByteArray) (r3 r4 r5 : Int) (r6 : Bool) (hN : lex_number.f s = some (r1, r2, r3, r4, r5, r6)) :
    Calls Tryz.prog 31 #[.string s] w fun e w' => e = .returned (.tuple #[.agg #[.int .i64 r1, .string r2, .int .i64 r3, .int .i64 r4], .int .i64 r5, .bool r6]) ∧ Below w.heap.size w w' := by
  have q2 : ((0 : Int) < (s.size : Int)) = True := eq_true (by omega)
  have HS := Aside0.mk hS
  have HG := Aside0.mk hG
  have HD := Aside0.mk hD
  have HN := Aside0.mk hN
  clear hS hG hD hN
  have e95 : (c == 95) = false := by first | (rw [beq_eq_false_iff_ne]; exact h95) | (rw [beq_iff_eq]; exact h95)
  have e39 : (c == 39) = false := by first | (rw [beq_eq_false_iff_ne]; exact h39) | (rw [beq_iff_eq]; exact h39)
  have e34 : (c == 34) = false := by first | (rw [beq_eq_false_iff_ne]; exact h34) | (rw [beq_iff_eq]; exact h34)
  have e45 : (c == 45) = false := by first | (rw [beq_eq_false_iff_ne]; exact h45) | (rw [beq_iff_eq]; exact h45)
  clear h95 h39 h34 h45
  go_enter Tryz.func31, Tryz.ntmps31
  go_wp2_with (first | (go_at_call 47; refine (lex_small.calls _ false _ HS.out).mono ?_; rintro e w2 ⟨rfl, nd, rfl⟩) | (go_at_call 48; refine (lex_great.calls _ false _ HG.out).mono ?_; rintro e w2 ⟨rfl, nd, rfl⟩) | (go_at_call 53; refine (lex_digit.calls _ true _ HD.out).mono ?_; rintro e w2 ⟨rfl, nd, rfl⟩) | (go_at_call 54; refine (lex_number.calls s r1 r2 r3 r4 r5 r6 _ ?ce HN.out).mono ?_; (case ce => (refine hE.below ?_; repeat (first | refine pw_below_drewN ?_ _ | exact (Below.refl _ _).alloc (Nat.le_refl _) _))); rintro e w1 ⟨rfl, hb⟩; have HB1 : Aside0 (Box4 w w1 (.int .i64 0) (.string ⟨#[]⟩) (.int .i64 0) (.int .i64 0)) := ⟨by first | exact Box4.start hb | exact Box4.start1 hb | exact Box4.start2 hb | exact Box4.start3 hb | exact Box4.start4 hb | exact Box4.start5 hb | exact Box4.start6 hb⟩; clear hb; obtain ⟨m10, m11, m12, m13, g10, g11, g12, g13, lt1, _⟩ := HB1.out))
  refine bodyPost_ret (v := (.tuple #[.agg #[.int .i64 r1, .string r2, .int .i64 r3, .int .i64 r4], .int .i64 r5, .bool r6])) (by simp [results, Tryz.results31, go_sem, m10, m11, m12, m13]) rfl ⟨rfl, ?_⟩
  repeat (first | exact HB1.out.bel | refine Below.setCell ?_ (by simp) _ | refine pw_below_drewN ?_ _ | exact (Below.refl _ _).alloc (Nat.le_refl _) _)

set_option maxRecDepth 100000 in
set_option maxHeartbeats 1000000 in
theorem lone_sign (s : ByteArray) (w : World) (hE : EnvOk w) (hs : s.size ≤ 1000000) (hlt : 0 < s.size) (c : Int) (hc : ((s[0]'hlt).toNat : Int) = c) (hS : lex_small.f c = some false) (hG : lex_great.f c = some false) (h95 : c ≠ 95) (h39 : c ≠ 39) (h34 : c ≠ 34) (h45 : c ≠ 45) (hD : lex_digit.f c = some false) (k : Nat) (hI : lex_sign.f k (s.extract 0 1) = some true) :
    Calls Tryz.prog 31 #[.string s] w fun e w' => e = .returned (.tuple #[.agg #[.int .i64 8, .string (s.extract 0 1), .int .i64 0, .int .i64 0], .int .i64 1, .bool true]) ∧ Below w.heap.size w w' := by
  have q2 : ((0 : Int) < (s.size : Int)) = True := eq_true (by omega)
  have HS := Aside0.mk hS
  have HG := Aside0.mk hG
  have HD := Aside0.mk hD
  have HI := Aside0.mk hI
  clear hS hG hD hI
  have e95 : (c == 95) = false := by first | (rw [beq_eq_false_iff_ne]; exact h95) | (rw [beq_iff_eq]; exact h95)
  have e39 : (c == 39) = false := by first | (rw [beq_eq_false_iff_ne]; exact h39) | (rw [beq_iff_eq]; exact h39)
  have e34 : (c == 34) = false := by first | (rw [beq_eq_false_iff_ne]; exact h34) | (rw [beq_iff_eq]; exact h34)
  have e45 : (c == 45) = false := by first | (rw [beq_eq_false_iff_ne]; exact h45) | (rw [beq_iff_eq]; exact h45)
  clear h95 h39 h34 h45
  have q6 := eq_true (show (1 : Int) ≤ (s.size : Int) by omega)
  go_enter Tryz.func31, Tryz.ntmps31
  go_wp2_with (first | (go_at_call 47; refine (lex_small.calls _ false _ HS.out).mono ?_; rintro e w2 ⟨rfl, nd, rfl⟩) | (go_at_call 48; refine (lex_great.calls _ false _ HG.out).mono ?_; rintro e w2 ⟨rfl, nd, rfl⟩) | (go_at_call 53; refine (lex_digit.calls _ false _ HD.out).mono ?_; rintro e w2 ⟨rfl, nd, rfl⟩) | (go_at_call 55; refine (lex_sign.calls k (s.extract 0 1) true _ HI.out).mono ?_; rintro e w2 ⟨rfl, nd, rfl⟩))
  refine bodyPost_ret (v := (.tuple #[.agg #[.int .i64 8, .string (s.extract 0 1), .int .i64 0, .int .i64 0], .int .i64 1, .bool true])) (by simp [results, Tryz.results31, go_sem]) rfl ⟨rfl, ?_⟩
  repeat (first | refine Below.setCell ?_ (by simp) _ | refine pw_below_drewN ?_ _ | exact (Below.refl _ _).alloc (Nat.le_refl _) _)

set_option maxRecDepth 100000 in
set_option maxHeartbeats 1000000 in
theorem lone_none (s : ByteArray) (w : World) (hE : EnvOk w) (hs : s.size ≤ 1000000) (hlt : 0 < s.size) (c : Int) (hc : ((s[0]'hlt).toNat : Int) = c) (hS : lex_small.f c = some false) (hG : lex_great.f c = some false) (h95 : c ≠ 95) (h39 : c ≠ 39) (h34 : c ≠ 34) (h45 : c ≠ 45) (hD : lex_digit.f c = some false) (k : Nat) (hI : lex_sign.f k (s.extract 0 1) = some false) :
    Calls Tryz.prog 31 #[.string s] w fun e w' => e = .returned (.tuple #[.agg #[.int .i64 0, .string ⟨#[]⟩, .int .i64 0, .int .i64 0], .int .i64 0, .bool false]) ∧ Below w.heap.size w w' := by
  have q2 : ((0 : Int) < (s.size : Int)) = True := eq_true (by omega)
  have HS := Aside0.mk hS
  have HG := Aside0.mk hG
  have HD := Aside0.mk hD
  have HI := Aside0.mk hI
  clear hS hG hD hI
  have e95 : (c == 95) = false := by first | (rw [beq_eq_false_iff_ne]; exact h95) | (rw [beq_iff_eq]; exact h95)
  have e39 : (c == 39) = false := by first | (rw [beq_eq_false_iff_ne]; exact h39) | (rw [beq_iff_eq]; exact h39)
  have e34 : (c == 34) = false := by first | (rw [beq_eq_false_iff_ne]; exact h34) | (rw [beq_iff_eq]; exact h34)
  have e45 : (c == 45) = false := by first | (rw [beq_eq_false_iff_ne]; exact h45) | (rw [beq_iff_eq]; exact h45)
  clear h95 h39 h34 h45
  have q6 := eq_true (show (1 : Int) ≤ (s.size : Int) by omega)
  go_enter Tryz.func31, Tryz.ntmps31
  go_wp2_with (first | (go_at_call 47; refine (lex_small.calls _ false _ HS.out).mono ?_; rintro e w2 ⟨rfl, nd, rfl⟩) | (go_at_call 48; refine (lex_great.calls _ false _ HG.out).mono ?_; rintro e w2 ⟨rfl, nd, rfl⟩) | (go_at_call 53; refine (lex_digit.calls _ false _ HD.out).mono ?_; rintro e w2 ⟨rfl, nd, rfl⟩) | (go_at_call 55; refine (lex_sign.calls k (s.extract 0 1) false _ HI.out).mono ?_; rintro e w2 ⟨rfl, nd, rfl⟩))
  refine bodyPost_ret (v := (.tuple #[.agg #[.int .i64 0, .string ⟨#[]⟩, .int .i64 0, .int .i64 0], .int .i64 0, .bool false])) (by simp [results, Tryz.results31, go_sem]) rfl ⟨rfl, ?_⟩
  repeat (first | refine Below.setCell ?_ (by simp) _ | refine pw_below_drewN ?_ _ | exact (Below.refl _ _).alloc (Nat.le_refl _) _)


theorem hasPrefix_f (l p : List UInt8) : strings_HasPrefix.f (B l) (B p) = some (decide (l.take p.length = p)) := by
  unfold strings_HasPrefix.f stringslite_HasPrefix.f
  rw [sz_B, sz_B]
  by_cases h : p.length ≤ l.length
  · rw [if_pos (by omega), if_pos (by omega), if_pos (by omega), Int.toNat_natCast, ex_0, tl_B, tl_B]
    simp only [Option.bind_some]
    congr 1
    rw [Bool.eq_iff_iff]
    simp
  · rw [if_neg (by omega)]
    simp only [Option.bind_some]
    congr 1
    symm
    rw [decide_eq_false_iff_not]
    intro e
    have := congrArg List.length e
    rw [List.length_take] at this
    omega
theorem sign_f (c : UInt8) (k : Nat) (hk : 1 ≤ k) : lex_sign.f k (B [c]) = some (decide (c ∈ sgL ∨ c = 95)) := by
  obtain ⟨k, rfl⟩ : ∃ q, k = q + 1 := ⟨k - 1, by omega⟩
  have e : (B [c]).toList = [c] := tl_B _
  have e1 : ∀ n : UInt8, ([c] = [n]) = (c = n) := fun n => by simp
  have e2 : ([c] = ([45, 62] : List UInt8)) = False := by simp
  have e3 : ∀ n : UInt8, ([c] == ([n] : List UInt8)) = decide (c = n) := fun n => by rw [Bool.eq_iff_iff]; simp
  have e4 : ([c] == ([45, 62] : List UInt8)) = false := by rw [beq_eq_false_iff_ne]; simp
  unfold lex_sign.f
  simp only [lex_sign.j0, e, e1, e2, e3, e4, if_false]
  simp only [sgL, List.mem_cons, List.not_mem_nil, or_false]
  by_cases h1 : c = 61
  · subst h1; rfl
  by_cases h2 : c = 124
  · subst h2; rfl
  by_cases h3 : c = 40
  · subst h3; rfl
  by_cases h4 : c = 41
  · subst h4; rfl
  by_cases h5 : c = 44
  · subst h5; rfl
  by_cases h6 : c = 59
  · subst h6; rfl
  by_cases h7 : c = 58
  · subst h7; rfl
  by_cases h8 : c = 46
  · subst h8; rfl
  by_cases h9 : c = 64
  · subst h9; rfl
  by_cases h10 : c = 95
  · subst h10; rfl
  simp [h1, h2, h3, h4, h5, h6, h7, h8, h9, h10]

def loneL (l : List UInt8) : Option (Int × ByteArray × Int × Int × Int × Bool) :=
  match l with
  | [] => none
  | c :: r =>
    if (isS c || isG c || c == 95) = true then lex_name.f (B (c :: r))
    else if c = 39 then lex_variable.f (B (c :: r))
    else if c = 34 then lex_text.f 3000000 (B (c :: r))
    else if c = 45 then (if r.headD 0 = 62 then some (8, ⟨#[45, 62]⟩, 0, 0, 2, true) else lex_number.f (B (c :: r)))
    else if isD c = true then lex_number.f (B (c :: r))
    else if c ∈ sgL then some (8, B [c], 0, 0, 1, true) else some (0, ⟨#[]⟩, 0, 0, 0, false)
/-- lex.one of a text of at most a million bytes that is not empty. -/
def lex_one.f (a0 : ByteArray) : Option (Int × ByteArray × Int × Int × Int × Bool) := if a0.size ≤ 1000000 then loneL a0.data.toList else none

theorem lone_w (c : UInt8) (r : List UInt8) (hL : (c :: r).length ≤ 1000000) (w : World) (hE : EnvOk w) (r1 : Int) (r2 : ByteArray) (r3 r4 r5 : Int) (r6 : Bool) (h : loneL (c :: r) = some (r1, r2, r3, r4, r5, r6)) :
    Calls Tryz.prog 31 #[.string (B (c :: r))] w fun e w' => e = .returned (.tuple #[.agg #[.int .i64 r1, .string r2, .int .i64 r3, .int .i64 r4], .int .i64 r5, .bool r6]) ∧ Below w.heap.size w w' := by
  obtain ⟨k, hk⟩ : ∃ k, k = 3000000 := ⟨_, rfl⟩
  have hs : (B (c :: r)).size ≤ 1000000 := by rw [sz_B]; exact hL
  have hlt : 0 < (B (c :: r)).size := by rw [sz_B]; simp
  have hc : (((B (c :: r))[0]'hlt).toNat : Int) = (c.toNat : Int) := rfl
  have hS := lsmall c
  have hG := lgreat c
  have hD := ldigit c
  unfold loneL at h
  simp only [] at h
  by_cases hn : (isS c || isG c || c == 95) = true
  · rw [if_pos hn] at h
    by_cases s1 : isS c = true
    · rw [s1] at hS
      exact lone_name_a _ w hE hs hlt _ hc hS _ _ _ _ _ _ h
    have s1' : isS c = false := by simpa using s1
    rw [s1'] at hS
    by_cases s2 : isG c = true
    · rw [s2] at hG
      exact lone_name_b _ w hE hs hlt _ hc hS hG _ _ _ _ _ _ h
    have s2' : isG c = false := by simpa using s2
    rw [s2'] at hG
    have h95 : c = 95 := by simpa [s1', s2'] using hn
    exact lone_name_c _ w hE hs hlt _ hc hS hG (by rw [h95]; rfl) _ _ _ _ _ _ h
  rw [if_neg hn] at h
  have hn' : (isS c || isG c || c == 95) = false := by simpa using hn
  simp only [Bool.or_eq_false_iff, beq_eq_false_iff_ne] at hn'
  obtain ⟨⟨s1, s2⟩, h95⟩ := hn'
  rw [s1] at hS
  rw [s2] at hG
  have n95 := ne95 h95
  by_cases h39 : c = 39
  · rw [if_pos h39] at h
    exact lone_var _ w hE hs hlt _ hc hS hG n95 (by rw [h39]; rfl) _ _ _ _ _ _ h
  rw [if_neg h39] at h
  by_cases h34 : c = 34
  · rw [if_pos h34] at h
    exact lone_text _ w hE hs hlt _ hc hS hG n95 (ne39 h39) (by rw [h34]; rfl) _ _ _ _ _ _ _ h
  rw [if_neg h34] at h
  by_cases h45 : c = 45
  · subst h45
    rw [if_pos rfl] at h
    have hP := hasPrefix_f (45 :: r) [45, 62]
    have hp : ((45 :: r).take ([45, 62] : List UInt8).length = [45, 62]) ↔ r.headD 0 = 62 := by
      cases r with
      | nil => simp
      | cons b q => simp
    by_cases h62 : r.headD 0 = 62
    · rw [if_pos h62] at h
      have h := Option.some.inj h
      simp only [Prod.mk.injEq] at h
      obtain ⟨rfl, rfl, rfl, rfl, rfl, rfl⟩ := h
      rw [decide_eq_true (hp.2 h62)] at hP
      exact lone_arrow _ w hE hs hlt _ hc hS hG n95 (ne39 h39) (ne34 h34) rfl hP
    · rw [if_neg h62] at h
      rw [decide_eq_false (fun e => h62 (hp.1 e))] at hP
      exact lone_neg _ w hE hs hlt _ hc hS hG n95 (ne39 h39) (ne34 h34) rfl hP _ _ _ _ _ _ h
  rw [if_neg h45] at h
  by_cases hDc : isD c = true
  · rw [if_pos hDc] at h
    rw [hDc] at hD
    exact lone_int _ w hE hs hlt _ hc hS hG n95 (ne39 h39) (ne34 h34) (ne45 h45) hD _ _ _ _ _ _ h
  rw [if_neg hDc] at h
  have hD' : isD c = false := by simpa using hDc
  rw [hD'] at hD
  have hx : (B (c :: r)).extract 0 1 = B [c] := by rw [ex_0]; rfl
  have hI := sign_f c k (by omega)
  by_cases hs9 : c ∈ sgL
  · rw [if_pos hs9] at h
    have h := Option.some.inj h
    simp only [Prod.mk.injEq] at h
    obtain ⟨rfl, rfl, rfl, rfl, rfl, rfl⟩ := h
    rw [decide_eq_true (.inl hs9)] at hI
    rw [← hx] at hI ⊢
    exact lone_sign _ w hE hs hlt _ hc hS hG n95 (ne39 h39) (ne34 h34) (ne45 h45) hD k hI
  · rw [if_neg hs9] at h
    have h := Option.some.inj h
    simp only [Prod.mk.injEq] at h
    obtain ⟨rfl, rfl, rfl, rfl, rfl, rfl⟩ := h
    rw [decide_eq_false (fun e => e.elim hs9 h95), ← hx] at hI
    exact lone_none _ w hE hs hlt _ hc hS hG n95 (ne39 h39) (ne34 h34) (ne45 h45) hD k hI
theorem lex_one.calls (a0 : ByteArray) (r1 : Int) (r2 : ByteArray) (r3 r4 r5 : Int) (r6 : Bool) (w : World) (hE : EnvOk w) (h : lex_one.f a0 = some (r1, r2, r3, r4, r5, r6)) :
    Calls Tryz.prog 31 #[.string a0] w fun e w' => e = .returned (.tuple #[.agg #[.int .i64 r1, .string r2, .int .i64 r3, .int .i64 r4], .int .i64 r5, .bool r6]) ∧ Below w.heap.size w w' := by
  unfold lex_one.f at h
  split at h
  · rename_i hs
    obtain ⟨L, hL⟩ : ∃ L, a0 = B L := ⟨_, B_of a0⟩
    subst hL
    rw [sz_B] at hs
    rw [show (B L).data.toList = L from rfl] at h
    cases L with
    | nil => cases h
    | cons c r => exact lone_w c r hs w hE r1 r2 r3 r4 r5 r6 h
  · cases h
end Go.Proofs.YtaikpnenegifnaaGreatDoor
