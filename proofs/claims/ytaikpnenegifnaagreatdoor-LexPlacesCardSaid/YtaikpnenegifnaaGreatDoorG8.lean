import Derived.Test.YtaikpnenegifnaaGreatDoorXLx2
import Derived.Test.YtaikpnenegifnaaGreatDoorG0
import Derived.Test.YtaikpnenegifnaaGreatDoorXLx3
import Derived.Test.YtaikpnenegifnaaGreatDoorWWords
import Derived.WalkKit
import Derived.Test.YtaikpnenegifnaaGreatDoorXLx6
import Derived.Deep.QuietTactic
import Derived.BigQuiet
/- semver.Right in plain words; what an old cell reads behind a call. -/
namespace Go.Proofs.YtaikpnenegifnaaGreatDoor
open Go.RowKit Go.Proofs.YtaikpnenegifnaaGreatDoorW.PrintWords Go.Proofs.YtaikpnenegifnaaGreatDoor.XL

theorem bcell {W w1 : World} (hb : Below W.heap.size W w1) : (∀ b o, b < W.heap.size → w1.cell? ⟨b, o, none⟩ = W.cell? ⟨b, o, none⟩) ∧ (∀ b o, b < W.heap.size → w1.frozen? ⟨b, o, none⟩ = W.frozen? ⟨b, o, none⟩) :=
  ⟨fun b o h => hb.cell (p := ⟨b, o, none⟩) h, fun b o h => hb.frozen (p := ⟨b, o, none⟩) h⟩

theorem in_f (a : Int) : semver_in.f a = some (decide (0 ≤ a ∧ a ≤ 999999)) := by
  unfold semver_in.f
  by_cases h : a ≥ 0
  · rw [if_pos h]; congr 1; simp; omega
  · rw [if_neg h]; congr 1; simp; omega
theorem right_f (a b c : Int) : semver_Right.f a b c = some (decide (0 ≤ a ∧ a ≤ 999999 ∧ 0 ≤ b ∧ b ≤ 999999 ∧ 0 ≤ c ∧ c ≤ 999999)) := by
  unfold semver_Right.f
  simp only [in_f, Option.bind_some]
  by_cases h1 : 0 ≤ a ∧ a ≤ 999999
  · by_cases h2 : 0 ≤ b ∧ b ≤ 999999
    · simp [h1, h2]
    · simp [h1, h2]; omega
  · simp [h1]; omega

end Go.Proofs.YtaikpnenegifnaaGreatDoor

/- semver.Parse: what it returns, for every text. -/
namespace Go.Proofs.YtaikpnenegifnaaGreatDoor
open Go.RowKit Go.Proofs.YtaikpnenegifnaaGreatDoorW.PrintWords Go.Proofs.YtaikpnenegifnaaGreatDoor.XL

def okPart (d : ByteArray) : Bool := decide (d.size ≤ 6) && (Lib.trimS d.data.toList [48, 49, 50, 51, 52, 53, 54, 55, 56, 57]).isEmpty
def numPart (d : ByteArray) : Int := (Lib.atoi d.data.toList).getD 0
def semver_Parse.f (s : ByteArray) : Option (Int × Int × Int × Int) :=
  if s.size < 4294967281 then
    match Lib.splitB ⟨#[46]⟩ 0 (Lib.countB s ⟨#[46]⟩) s with
    | [x, y, z] => if okPart x = true ∧ okPart y = true ∧ okPart z = true then
        (semver_Print.f (numPart x) (numPart y) (numPart z)).bind fun t => if t = s then some (numPart x, numPart y, numPart z, 0) else some (0, 0, 0, 10)
      else some (0, 0, 0, 10)
    | _ => some (0, 0, 0, 10)
  else none

theorem split3 (s x y z : ByteArray) (w : World) (hE : EnvOk w) (hs : s.size < 4294967281) (hl : Lib.splitB ⟨#[46]⟩ 0 (Lib.countB s ⟨#[46]⟩) s = [x, y, z]) :
    Calls Tryz.prog 65 #[.string s, .string ⟨#[46]⟩] w fun e w' => e = .returned (.slice (some ⟨w.heap.size, 0, none⟩) 3 3) ∧ w' = w.alloc (.cells #[.string x, .string y, .string z] 9) := by
  have hc : Lib.countB s ⟨#[46]⟩ = 2 := by
    have h := Lib.splitB_all ⟨#[46]⟩ (by decide) 0 _ s rfl
    rw [hl] at h; simp at h; omega
  have h := Tryz.strings_Split_shaped s ⟨#[46]⟩ w hE.shaped hs (by decide)
  rw [hl, hc] at h
  exact h


/-- Where Parse's memory stands: the three parts, the result's place, the array of three numbers. -/
structure PInv (w wr : World) (x y z : ByteArray) (c0 c1 c2 : Int) : Prop where
  s0 : wr.cell? ⟨w.heap.size + 1, 0, none⟩ = some (.string x)
  s1 : wr.cell? ⟨w.heap.size + 1, 1, none⟩ = some (.string y)
  s2 : wr.cell? ⟨w.heap.size + 1, 2, none⟩ = some (.string z)
  r0 : wr.cell? ⟨w.heap.size, 0, none⟩ = some (.int .i64 0)
  r1 : wr.cell? ⟨w.heap.size, 1, none⟩ = some (.int .i64 0)
  r2 : wr.cell? ⟨w.heap.size, 2, none⟩ = some (.int .i64 0)
  a0 : wr.cell? ⟨w.heap.size + 1 + 1, 0, none⟩ = some (.int .i64 c0)
  a1 : wr.cell? ⟨w.heap.size + 1 + 1, 1, none⟩ = some (.int .i64 c1)
  a2 : wr.cell? ⟨w.heap.size + 1 + 1, 2, none⟩ = some (.int .i64 c2)
  f0 : wr.frozen? ⟨w.heap.size, 0, none⟩ = false
  f1 : wr.frozen? ⟨w.heap.size, 1, none⟩ = false
  f2 : wr.frozen? ⟨w.heap.size, 2, none⟩ = false
  g0 : wr.frozen? ⟨w.heap.size + 1 + 1, 0, none⟩ = false
  g1 : wr.frozen? ⟨w.heap.size + 1 + 1, 1, none⟩ = false
  g2 : wr.frozen? ⟨w.heap.size + 1 + 1, 2, none⟩ = false
  sz : w.heap.size + 1 + 1 < wr.heap.size
  bel : Below w.heap.size w wr
  env : EnvOk w

theorem PInv.start (w : World) (x y z : ByteArray) (T U : TypeId) (hE : EnvOk w) : PInv w (((w.alloc (.cells #[.int .i64 0, .int .i64 0, .int .i64 0] T)).alloc (.cells #[.string x, .string y, .string z] 9)).alloc (.cells #[.int .i64 0, .int .i64 0, .int .i64 0] U)) x y z 0 0 0 where
  s0 := by go_simp
  s1 := by go_simp
  s2 := by go_simp
  r0 := by go_simp
  r1 := by go_simp
  r2 := by go_simp
  a0 := by go_simp
  a1 := by go_simp
  a2 := by go_simp
  f0 := by go_simp
  f1 := by go_simp
  f2 := by go_simp
  g0 := by go_simp
  g1 := by go_simp
  g2 := by go_simp
  sz := by simp
  bel := (((Below.refl _ _).alloc (Nat.le_refl _) _).alloc (by simp) _).alloc (by simp; omega) _
  env := hE

theorem PInv.step {w wr w' : World} {x y z : ByteArray} {c0 c1 c2 : Int} (h : PInv w wr x y z c0 c1 c2) (hb : Below wr.heap.size wr w') : PInv w w' x y z c0 c1 c2 := by
  obtain ⟨hc, hf⟩ := bcell hb
  have hz := h.sz
  exact ⟨(hc _ _ (by omega)).trans h.s0, (hc _ _ (by omega)).trans h.s1, (hc _ _ (by omega)).trans h.s2, (hc _ _ (by omega)).trans h.r0, (hc _ _ (by omega)).trans h.r1, (hc _ _ (by omega)).trans h.r2, (hc _ _ (by omega)).trans h.a0, (hc _ _ (by omega)).trans h.a1, (hc _ _ (by omega)).trans h.a2,
    (hf _ _ (by omega)).trans h.f0, (hf _ _ (by omega)).trans h.f1, (hf _ _ (by omega)).trans h.f2, (hf _ _ (by omega)).trans h.g0, (hf _ _ (by omega)).trans h.g1, (hf _ _ (by omega)).trans h.g2, Nat.lt_of_lt_of_le hz hb.size, h.bel.trans (hb.mono (by omega)), h.env⟩

theorem PInv.set0 {w wr : World} {x y z : ByteArray} {c0 c1 c2 : Int} (h : PInv w wr x y z c0 c1 c2) (n : Int) : PInv w (wr.setCell ⟨w.heap.size + 1 + 1, 0, none⟩ (.int .i64 n)) x y z n c1 c2 := by
  obtain ⟨s0, s1, s2, r0, r1, r2, a0, a1, a2, f0, f1, f2, g0, g1, g2, sz, bel, env⟩ := h
  have hb : Below w.heap.size w (wr.setCell ⟨w.heap.size + 1 + 1, 0, none⟩ (.int .i64 n)) := bel.setCell (by show w.heap.size ≤ w.heap.size + 1 + 1; omega) _
  refine ⟨?_, ?_, ?_, ?_, ?_, ?_, ?_, ?_, ?_, ?_, ?_, ?_, ?_, ?_, ?_, by simpa using sz, hb, env⟩ <;> go_simp

theorem PInv.set1 {w wr : World} {x y z : ByteArray} {c0 c1 c2 : Int} (h : PInv w wr x y z c0 c1 c2) (n : Int) : PInv w (wr.setCell ⟨w.heap.size + 1 + 1, 1, none⟩ (.int .i64 n)) x y z c0 n c2 := by
  obtain ⟨s0, s1, s2, r0, r1, r2, a0, a1, a2, f0, f1, f2, g0, g1, g2, sz, bel, env⟩ := h
  have hb : Below w.heap.size w (wr.setCell ⟨w.heap.size + 1 + 1, 1, none⟩ (.int .i64 n)) := bel.setCell (by show w.heap.size ≤ w.heap.size + 1 + 1; omega) _
  refine ⟨?_, ?_, ?_, ?_, ?_, ?_, ?_, ?_, ?_, ?_, ?_, ?_, ?_, ?_, ?_, by simpa using sz, hb, env⟩ <;> go_simp

theorem PInv.set2 {w wr : World} {x y z : ByteArray} {c0 c1 c2 : Int} (h : PInv w wr x y z c0 c1 c2) (n : Int) : PInv w (wr.setCell ⟨w.heap.size + 1 + 1, 2, none⟩ (.int .i64 n)) x y z c0 c1 n := by
  obtain ⟨s0, s1, s2, r0, r1, r2, a0, a1, a2, f0, f1, f2, g0, g1, g2, sz, bel, env⟩ := h
  have hb : Below w.heap.size w (wr.setCell ⟨w.heap.size + 1 + 1, 2, none⟩ (.int .i64 n)) := bel.setCell (by show w.heap.size ≤ w.heap.size + 1 + 1; omega) _
  refine ⟨?_, ?_, ?_, ?_, ?_, ?_, ?_, ?_, ?_, ?_, ?_, ?_, ?_, ?_, ?_, by simpa using sz, hb, env⟩ <;> go_simp

theorem toList_inj {t s : ByteArray} (h : t.toList = s.toList) : t = s := by
  rw [ByteArray.toList_eq, ByteArray.toList_eq] at h
  obtain ⟨⟨a⟩⟩ := t
  obtain ⟨⟨b⟩⟩ := s
  simpa using h
theorem box_cells {wr w1 : World} {a b c : Value} {T : TypeId} (hb : Below (wr.alloc (.cells #[a, b, c] T)).heap.size (wr.alloc (.cells #[a, b, c] T)) w1) :
    w1.cell? ⟨wr.heap.size, 0, none⟩ = some a ∧ w1.cell? ⟨wr.heap.size, 1, none⟩ = some b ∧ w1.cell? ⟨wr.heap.size, 2, none⟩ = some c ∧ Below wr.heap.size wr w1 := by
  obtain ⟨hc, hf⟩ := bcell hb
  refine ⟨(hc _ _ (by simp)).trans (by go_simp), (hc _ _ (by simp)).trans (by go_simp), (hc _ _ (by simp)).trans (by go_simp), ((Below.refl _ _).alloc (Nat.le_refl _) _).trans (hb.mono (by simp))⟩
theorem okPart_trim {d : ByteArray} (h : okPart d = true) : d.size ≤ 6 ∧ strings_Trim.f d ⟨#[48, 49, 50, 51, 52, 53, 54, 55, 56, 57]⟩ = some ⟨#[]⟩ := by
  unfold okPart at h
  simp only [Bool.and_eq_true, decide_eq_true_eq, List.isEmpty_iff] at h
  refine ⟨h.1, ?_⟩
  unfold strings_Trim.f
  have hz := h.1
  rw [if_pos ⟨by omega, by decide, by decide⟩]
  show some (⟨(Lib.trimS d.data.toList [48, 49, 50, 51, 52, 53, 54, 55, 56, 57]).toArray⟩ : ByteArray) = _
  rw [h.2]
theorem not_okPart {d : ByteArray} (h : ¬ okPart d = true) (h6 : d.size ≤ 6) : ∃ t : ByteArray, strings_Trim.f d ⟨#[48, 49, 50, 51, 52, 53, 54, 55, 56, 57]⟩ = some t ∧ t.toList.isEmpty = false := by
  unfold okPart at h
  refine ⟨⟨(Lib.trimS d.data.toList [48, 49, 50, 51, 52, 53, 54, 55, 56, 57]).toArray⟩, ?_, ?_⟩
  · unfold strings_Trim.f
    rw [if_pos ⟨by omega, by decide, by decide⟩]
  · simp [h6] at h
    simpa [ByteArray.toList_eq] using h

set_option maxHeartbeats 4000000 in
theorem parse_three (s x y z : ByteArray) (r1 r2 r3 r4 : Int) (w : World) (hE : EnvOk w) (hs : s.size < 4294967281) (hl : Lib.splitB ⟨#[46]⟩ 0 (Lib.countB s ⟨#[46]⟩) s = [x, y, z])
    (h : (if okPart x = true ∧ okPart y = true ∧ okPart z = true then (semver_Print.f (numPart x) (numPart y) (numPart z)).bind fun t => if t = s then some (numPart x, numPart y, numPart z, 0) else some (0, 0, 0, 10) else some (0, 0, 0, 10)) = some (r1, r2, r3, r4)) :
    Calls Tryz.prog 34 #[.string s] w fun e w' => e = .returned (.tuple #[.agg #[.int .i64 r1, .int .i64 r2, .int .i64 r3], .int .i64 r4]) ∧ Below w.heap.size w w' := by
  have HL := Lib.hid hl
  have HH := Lib.hid h
  clear hl h
  go_enter Tryz.func34, Tryz.ntmps34
  go_wp2_with (go_at_call 65; refine (split3 s x y z _ (hE.below ((Below.refl _ _).alloc (Nat.le_refl _) _)) hs HL.out).mono ?_; rintro e w1 ⟨rfl, rfl⟩)
  go_loopw [17] (fun i wr => ∃ k : Nat, k ≤ 3 ∧ i = .int .i64 k ∧ (0 < k → okPart x = true) ∧ (1 < k → okPart y = true) ∧ (2 < k → okPart z = true) ∧ PInv w wr x y z (if 0 < k then numPart x else 0) (if 1 < k then numPart y else 0) (if 2 < k then numPart z else 0)) (fun i _ => 3 - (intOf i).toNat)
  case atStart => exact ⟨0, by omega, rfl, by omega, by omega, by omega, PInv.start w x y z _ _ hE⟩
  case round =>
    obtain ⟨k, hk, rfl, ox, oy, oz, hp⟩ := hrel
    have HP := Aside0.mk hp
    obtain ⟨s0, s1, s2, e0, e1, e2, a0, a1, a2, f0, f1, f2, g0, g1, g2, sz, _, _⟩ := hp
    have hk4 : k = 0 ∨ k = 1 ∨ k = 2 ∨ k = 3 := by omega
    clear hk
    rcases hk4 with rfl | rfl | rfl | rfl
    · clear ox oy oz
      by_cases ho : okPart x = true
      · obtain ⟨h6, ht⟩ := okPart_trim ho
        have HT := Aside0.mk ht
        have HO := Aside0.mk ho
        clear ht ho
        have b6 : decide ((6 : Int) < (x.size : Int)) = false := decide_eq_false (by omega)
        have b7 : decide (6 < x.size) = false := decide_eq_false (by omega)
        go_wp2_with (first | (go_at_call 66; refine (strings_Trim.calls x _ _ _ HT.out).mono ?_; rintro e w1 ⟨rfl, hb1⟩; have HQ := Aside0.mk (HP.out.step hb1); obtain ⟨s0', s1', s2', e0', e1', e2', a0', a1', a2', f0', f1', f2', g0', g1', g2', sz', _, _⟩ := HQ.out) | (go_at_call 67; refine (atoi18.calls x _ (hE.below HQ.out.bel) (by omega)).mono ?_; rintro e w2 ⟨ev, rfl, hb2⟩; have HR := Aside0.mk (HQ.out.step hb2); obtain ⟨s0'', s1'', s2'', e0'', e1'', e2'', a0'', a1'', a2'', f0'', f1'', f2'', g0'', g1'', g2'', sz'', _, _⟩ := HR.out))
        exact ⟨⟨1, by omega, rfl, fun _ => HO.out, by omega, by omega, by simpa [numPart] using HR.out.set0 ((Lib.atoi x.data.toList).getD 0)⟩, by simp [intOf]⟩
      · obtain ⟨rfl, rfl, rfl, rfl⟩ : r1 = 0 ∧ r2 = 0 ∧ r3 = 0 ∧ r4 = 10 := by
          have hr := HH.out
          rw [if_neg (fun hh => ho hh.1)] at hr
          simp only [Option.some.injEq, Prod.mk.injEq] at hr
          obtain ⟨rfl, rfl, rfl, rfl⟩ := hr
          exact ⟨rfl, rfl, rfl, rfl⟩
        by_cases h6 : x.size ≤ 6
        · obtain ⟨t, ht, hne⟩ := not_okPart ho h6
          have HT := Aside0.mk ht
          clear ht ho
          have b6 : decide ((6 : Int) < (x.size : Int)) = false := decide_eq_false (by omega)
          have b7 : decide (6 < x.size) = false := decide_eq_false (by omega)
          go_wp2_with (go_at_call 66; refine (strings_Trim.calls x _ _ _ HT.out).mono ?_; rintro e w1 ⟨rfl, hb1⟩; have HQ := Aside0.mk (HP.out.step hb1); obtain ⟨s0', s1', s2', e0', e1', e2', a0', a1', a2', f0', f1', f2', g0', g1', g2', sz', _, _⟩ := HQ.out)
          refine bodyPost_ret (v := .tuple #[.agg #[.int .i64 0, .int .i64 0, .int .i64 0], .int .i64 10]) (by simp [results, Tryz.results34, go_sem, e0', e1', e2']) rfl ⟨rfl, ?_⟩
          repeat (first | refine Below.setCell ?_ (by simp) _)
          exact HQ.out.bel
        · have b6 : decide ((6 : Int) < (x.size : Int)) = true := decide_eq_true (by omega)
          have b7 : decide (6 < x.size) = true := decide_eq_true (by omega)
          clear ho
          go_wp2
          refine bodyPost_ret (v := .tuple #[.agg #[.int .i64 0, .int .i64 0, .int .i64 0], .int .i64 10]) (by simp [results, Tryz.results34, go_sem, e0, e1, e2]) rfl ⟨rfl, ?_⟩
          repeat (first | refine Below.setCell ?_ (by simp) _)
          exact HP.out.bel
    · have ox1 := Aside0.mk (ox (by omega))
      clear ox oy oz
      by_cases ho : okPart y = true
      · obtain ⟨h6, ht⟩ := okPart_trim ho
        have HT := Aside0.mk ht
        have HO := Aside0.mk ho
        clear ht ho
        have b6 : decide ((6 : Int) < (y.size : Int)) = false := decide_eq_false (by omega)
        have b7 : decide (6 < y.size) = false := decide_eq_false (by omega)
        go_wp2_with (first | (go_at_call 66; refine (strings_Trim.calls y _ _ _ HT.out).mono ?_; rintro e w1 ⟨rfl, hb1⟩; have HQ := Aside0.mk (HP.out.step hb1); obtain ⟨s0', s1', s2', e0', e1', e2', a0', a1', a2', f0', f1', f2', g0', g1', g2', sz', _, _⟩ := HQ.out) | (go_at_call 67; refine (atoi18.calls y _ (hE.below HQ.out.bel) (by omega)).mono ?_; rintro e w2 ⟨ev, rfl, hb2⟩; have HR := Aside0.mk (HQ.out.step hb2); obtain ⟨s0'', s1'', s2'', e0'', e1'', e2'', a0'', a1'', a2'', f0'', f1'', f2'', g0'', g1'', g2'', sz'', _, _⟩ := HR.out))
        exact ⟨⟨2, by omega, rfl, fun _ => ox1.out, fun _ => HO.out, by omega, by simpa [numPart] using HR.out.set1 ((Lib.atoi y.data.toList).getD 0)⟩, by simp [intOf]⟩
      · obtain ⟨rfl, rfl, rfl, rfl⟩ : r1 = 0 ∧ r2 = 0 ∧ r3 = 0 ∧ r4 = 10 := by
          have hr := HH.out
          rw [if_neg (fun hh => ho hh.2.1)] at hr
          simp only [Option.some.injEq, Prod.mk.injEq] at hr
          obtain ⟨rfl, rfl, rfl, rfl⟩ := hr
          exact ⟨rfl, rfl, rfl, rfl⟩
        by_cases h6 : y.size ≤ 6
        · obtain ⟨t, ht, hne⟩ := not_okPart ho h6
          have HT := Aside0.mk ht
          clear ht ho
          have b6 : decide ((6 : Int) < (y.size : Int)) = false := decide_eq_false (by omega)
          have b7 : decide (6 < y.size) = false := decide_eq_false (by omega)
          go_wp2_with (go_at_call 66; refine (strings_Trim.calls y _ _ _ HT.out).mono ?_; rintro e w1 ⟨rfl, hb1⟩; have HQ := Aside0.mk (HP.out.step hb1); obtain ⟨s0', s1', s2', e0', e1', e2', a0', a1', a2', f0', f1', f2', g0', g1', g2', sz', _, _⟩ := HQ.out)
          refine bodyPost_ret (v := .tuple #[.agg #[.int .i64 0, .int .i64 0, .int .i64 0], .int .i64 10]) (by simp [results, Tryz.results34, go_sem, e0', e1', e2']) rfl ⟨rfl, ?_⟩
          repeat (first | refine Below.setCell ?_ (by simp) _)
          exact HQ.out.bel
        · have b6 : decide ((6 : Int) < (y.size : Int)) = true := decide_eq_true (by omega)
          have b7 : decide (6 < y.size) = true := decide_eq_true (by omega)
          clear ho
          go_wp2
          refine bodyPost_ret (v := .tuple #[.agg #[.int .i64 0, .int .i64 0, .int .i64 0], .int .i64 10]) (by simp [results, Tryz.results34, go_sem, e0, e1, e2]) rfl ⟨rfl, ?_⟩
          repeat (first | refine Below.setCell ?_ (by simp) _)
          exact HP.out.bel
    · have ox1 := Aside0.mk (ox (by omega))
      have oy1 := Aside0.mk (oy (by omega))
      clear ox oy oz
      by_cases ho : okPart z = true
      · obtain ⟨h6, ht⟩ := okPart_trim ho
        have HT := Aside0.mk ht
        have HO := Aside0.mk ho
        clear ht ho
        have b6 : decide ((6 : Int) < (z.size : Int)) = false := decide_eq_false (by omega)
        have b7 : decide (6 < z.size) = false := decide_eq_false (by omega)
        go_wp2_with (first | (go_at_call 66; refine (strings_Trim.calls z _ _ _ HT.out).mono ?_; rintro e w1 ⟨rfl, hb1⟩; have HQ := Aside0.mk (HP.out.step hb1); obtain ⟨s0', s1', s2', e0', e1', e2', a0', a1', a2', f0', f1', f2', g0', g1', g2', sz', _, _⟩ := HQ.out) | (go_at_call 67; refine (atoi18.calls z _ (hE.below HQ.out.bel) (by omega)).mono ?_; rintro e w2 ⟨ev, rfl, hb2⟩; have HR := Aside0.mk (HQ.out.step hb2); obtain ⟨s0'', s1'', s2'', e0'', e1'', e2'', a0'', a1'', a2'', f0'', f1'', f2'', g0'', g1'', g2'', sz'', _, _⟩ := HR.out))
        exact ⟨⟨3, by omega, rfl, fun _ => ox1.out, fun _ => oy1.out, fun _ => HO.out, by simpa [numPart] using HR.out.set2 ((Lib.atoi z.data.toList).getD 0)⟩, by simp [intOf]⟩
      · obtain ⟨rfl, rfl, rfl, rfl⟩ : r1 = 0 ∧ r2 = 0 ∧ r3 = 0 ∧ r4 = 10 := by
          have hr := HH.out
          rw [if_neg (fun hh => ho hh.2.2)] at hr
          simp only [Option.some.injEq, Prod.mk.injEq] at hr
          obtain ⟨rfl, rfl, rfl, rfl⟩ := hr
          exact ⟨rfl, rfl, rfl, rfl⟩
        by_cases h6 : z.size ≤ 6
        · obtain ⟨t, ht, hne⟩ := not_okPart ho h6
          have HT := Aside0.mk ht
          clear ht ho
          have b6 : decide ((6 : Int) < (z.size : Int)) = false := decide_eq_false (by omega)
          have b7 : decide (6 < z.size) = false := decide_eq_false (by omega)
          go_wp2_with (go_at_call 66; refine (strings_Trim.calls z _ _ _ HT.out).mono ?_; rintro e w1 ⟨rfl, hb1⟩; have HQ := Aside0.mk (HP.out.step hb1); obtain ⟨s0', s1', s2', e0', e1', e2', a0', a1', a2', f0', f1', f2', g0', g1', g2', sz', _, _⟩ := HQ.out)
          refine bodyPost_ret (v := .tuple #[.agg #[.int .i64 0, .int .i64 0, .int .i64 0], .int .i64 10]) (by simp [results, Tryz.results34, go_sem, e0', e1', e2']) rfl ⟨rfl, ?_⟩
          repeat (first | refine Below.setCell ?_ (by simp) _)
          exact HQ.out.bel
        · have b6 : decide ((6 : Int) < (z.size : Int)) = true := decide_eq_true (by omega)
          have b7 : decide (6 < z.size) = true := decide_eq_true (by omega)
          clear ho
          go_wp2
          refine bodyPost_ret (v := .tuple #[.agg #[.int .i64 0, .int .i64 0, .int .i64 0], .int .i64 10]) (by simp [results, Tryz.results34, go_sem, e0, e1, e2]) rfl ⟨rfl, ?_⟩
          repeat (first | refine Below.setCell ?_ (by simp) _)
          exact HP.out.bel
    · have hr := HH.out
      rw [if_pos ⟨ox (by omega), oy (by omega), oz (by omega)⟩] at hr
      clear ox oy oz
      obtain ⟨t, ht, hr⟩ := Option.bind_eq_some_iff.mp hr
      have HT := Aside0.mk ht
      clear ht
      by_cases hts : t = s
      · subst hts
        rw [if_pos rfl] at hr
        simp only [Option.some.injEq, Prod.mk.injEq] at hr
        obtain ⟨rfl, rfl, rfl, rfl⟩ := hr
        go_wp2_with (go_at_call 68; refine (semver_Print.calls _ _ _ t _ (hE.below (HP.out.bel.alloc (Nat.le_of_lt (Nat.lt_trans (by omega) HP.out.sz)) _)) HT.out).mono ?_; rintro e w1 ⟨rfl, hb1⟩; obtain ⟨v0, v1, v2, hb2⟩ := box_cells hb1; have HQ := Aside0.mk (HP.out.step hb2); obtain ⟨s0', s1', s2', e0', e1', e2', a0', a1', a2', f0', f1', f2', g0', g1', g2', sz', _, _⟩ := HQ.out)
        refine bodyPost_ret (v := .tuple #[.agg #[.int .i64 (numPart x), .int .i64 (numPart y), .int .i64 (numPart z)], .int .i64 0]) (by simp [results, Tryz.results34, go_sem, e0', e1', e2']) rfl ⟨rfl, ?_⟩
        repeat (first | refine Below.setCell ?_ (by simp) _)
        exact HQ.out.bel
      · rw [if_neg hts] at hr
        simp only [Option.some.injEq, Prod.mk.injEq] at hr
        obtain ⟨rfl, rfl, rfl, rfl⟩ := hr
        have ht1 : (t.toList == s.toList) = false := beq_eq_false_iff_ne.2 fun h => hts (toList_inj h)
        have ht2 : (t.toList != s.toList) = true := by simpa using ht1
        clear hts
        go_wp2_with (go_at_call 68; refine (semver_Print.calls _ _ _ t _ (hE.below (HP.out.bel.alloc (Nat.le_of_lt (Nat.lt_trans (by omega) HP.out.sz)) _)) HT.out).mono ?_; rintro e w1 ⟨rfl, hb1⟩; obtain ⟨v0, v1, v2, hb2⟩ := box_cells hb1; have HQ := Aside0.mk (HP.out.step hb2); obtain ⟨s0', s1', s2', e0', e1', e2', a0', a1', a2', f0', f1', f2', g0', g1', g2', sz', _, _⟩ := HQ.out)
        refine bodyPost_ret (v := .tuple #[.agg #[.int .i64 0, .int .i64 0, .int .i64 0], .int .i64 10]) (by simp [results, Tryz.results34, go_sem, e0', e1', e2']) rfl ⟨rfl, ?_⟩
        repeat (first | refine Below.setCell ?_ (by simp) _)
        exact HQ.out.bel

set_option maxHeartbeats 1000000 in
theorem parse_other (s : ByteArray) (w : World) (hE : EnvOk w) (hs : s.size < 4294967281) (hc : Lib.countB s ⟨#[46]⟩ ≠ 2) :
    Calls Tryz.prog 34 #[.string s] w fun e w' => e = .returned (.tuple #[.agg #[.int .i64 0, .int .i64 0, .int .i64 0], .int .i64 10]) ∧ Below w.heap.size w w' := by
  have hS := fun w' hE' => Tryz.strings_Split_shaped s ⟨#[46]⟩ w' (hE' : EnvOk w').shaped hs (by decide)
  generalize hn : Lib.countB s ⟨#[46]⟩ = n at hS hc
  generalize (List.map Value.string (Lib.splitB ⟨#[46]⟩ 0 n s)).toArray = cs at hS
  have hnlt : n ≤ s.size := by rw [← hn]; exact Lib.countB_le ⟨#[46]⟩ (by decide) s.size s (Nat.le_refl _)
  have HS := Aside0.mk hS
  clear hS hn
  have b1 : (((n + 1 : Nat) : Int) == 3) = false := beq_eq_false_iff_ne.2 (by omega)
  have b2 : (((n + 1 : Nat) : Int) != 3) = true := by rw [bne_iff_ne]; omega
  have b3 : (((n : Int) + 1) == 3) = false := beq_eq_false_iff_ne.2 (by omega)
  have b4 : (((n : Int) + 1) != 3) = true := by rw [bne_iff_ne]; omega
  have b5 : ((n : Int) == 2) = false := beq_eq_false_iff_ne.2 (by omega)
  clear hc
  go_enter Tryz.func34, Tryz.ntmps34
  go_wp2_with (go_at_call 65; refine (HS.out _ (hE.below ((Below.refl _ _).alloc (Nat.le_refl _) _))).mono ?_; rintro e w1 ⟨rfl, rfl⟩)
  refine bodyPost_ret (v := .tuple #[.agg #[.int .i64 0, .int .i64 0, .int .i64 0], .int .i64 10]) (by simp [results, Tryz.results34, go_sem]) rfl ⟨rfl, ?_⟩
  repeat (first | refine Below.setCell ?_ (by simp) _)
  exact ((Below.refl _ _).alloc (Nat.le_refl _) _).alloc (by simp) _

theorem semver_Parse.calls (a0 : ByteArray) (r1 r2 r3 r4 : Int) (w : World) (hE : EnvOk w) (h : semver_Parse.f a0 = some (r1, r2, r3, r4)) :
    Calls Tryz.prog 34 #[.string a0] w fun e w' => e = .returned (.tuple #[.agg #[.int .i64 r1, .int .i64 r2, .int .i64 r3], .int .i64 r4]) ∧ Below w.heap.size w w' := by
  unfold semver_Parse.f at h
  split at h
  · rename_i hs
    split at h
    · rename_i x y z hl
      exact parse_three a0 x y z r1 r2 r3 r4 w hE hs hl h
    · rename_i hn
      simp only [Option.some.injEq, Prod.mk.injEq] at h
      obtain ⟨rfl, rfl, rfl, rfl⟩ := h
      refine parse_other a0 w hE hs fun hc => ?_
      have hlen := Lib.splitB_all ⟨#[46]⟩ (by decide) 0 _ a0 rfl
      rw [hc] at hlen hn
      match hl : Lib.splitB ⟨#[46]⟩ 0 2 a0, hlen with
      | [x, y, z], _ => exact hn x y z hl
  · cases h
end Go.Proofs.YtaikpnenegifnaaGreatDoor

/- lex.run: the walk, for any function that is handed to it and answers a predicate of the byte. -/
namespace Go.Proofs.YtaikpnenegifnaaGreatDoor
set_option linter.unusedVariables false
open Go.RowKit Go.Proofs.YtaikpnenegifnaaGreatDoorW.PrintWords

theorem tw_at : ∀ (l : List UInt8) (P : UInt8 → Bool) (j : Nat), j ≤ (l.takeWhile P).length → (j < (l.takeWhile P).length ↔ (j < l.length ∧ P (l.getD j 0) = true))
  | [], P, j, _ => by simp
  | c :: l, P, j, h => by
    by_cases hc : P c = true
    · rw [List.takeWhile_cons_of_pos hc] at h ⊢
      cases j with
      | zero => simp [hc]
      | succ j =>
        have ih := tw_at l P j (by simpa using h)
        simp only [List.length_cons, Nat.add_lt_add_iff_right, List.getD_cons_succ]
        exact ih
    · rw [List.takeWhile_cons_of_neg hc] at h ⊢
      have : j = 0 := by simpa using h
      subst this
      simp [hc]

set_option maxHeartbeats 2000000 in
theorem run_walk (g : FuncId) (P : UInt8 → Bool) (hp : ∀ (c : Int) (W : World), 0 ≤ c → c ≤ 255 → Calls Tryz.prog g #[.int .u8 c] W fun e w' => e = .returned (.bool (P (UInt8.ofNat c.toNat))) ∧ Drawn0 W w')
    (eg : ∀ args w, (callFunc g args).run Tryz.prog w = .ok (.enter g args) w) (s : ByteArray) (hs : s.size ≤ 1000000) (w : World) :
    Calls Tryz.prog 78 #[.string s, .func (.func g) #[] #[]] w fun e w' => e = .returned (.int .i64 ((s.data.toList.takeWhile P).length : Nat)) ∧ Drawn0 w w' := by
  obtain ⟨l, el⟩ : ∃ l, s.data.toList = l := ⟨_, rfl⟩
  have hl : l.length = s.size := by rw [← el]; exact Array.length_toList
  obtain ⟨m, hm⟩ : ∃ m, (l.takeWhile P).length = m := ⟨_, rfl⟩
  rw [el, hm]
  have HP := Aside0.mk hp
  clear hp
  go_enter Tryz.func78, Tryz.ntmps78
  go_wp2
  go_loopw [5] (fun i wr => ∃ k : Nat, k ≤ m ∧ i = .int .i64 k ∧ Drawn0 w wr) (fun i _ => s.size + 1 - (intOf i).toNat)
  case atStart => exact ⟨0, Nat.zero_le _, rfl, Drawn0.refl _⟩
  case round =>
    obtain ⟨k, hk, rfl, hD⟩ := hrel
    have hat := tw_at l P k (by omega)
    rw [hm] at hat
    have hget : ∀ h : k < s.size, s[k]'h = l.getD k 0 := by
      intro h
      have h' : k < l.length := by omega
      subst el
      rw [List.getD_eq_getElem?_getD, List.getElem?_eq_getElem h', Option.getD_some]
      rfl
    by_cases hlt : k < s.size
    · have d1 : decide ((k : Int) < (s.size : Int)) = true := decide_eq_true (by omega)
      have d2 : (0 : Int) ≤ (k : Int) := by omega
      have q1 := eq_true d2
      have q2 : ((k : Int) < (s.size : Int)) = True := eq_true (by omega)
      have hx := bt_at s (k : Int)
      have eb : P (UInt8.ofNat (((s[k]'hlt).toNat : Nat) : Int).toNat) = P (l.getD k 0) := by
        rw [hget hlt, Int.toNat_natCast]
        congr 1
        exact UInt8.ofNat_toNat
      have HAT := Aside0.mk hat
      clear hget hat
      go_wp2
      refine (HP.out _ _ (by omega) (by have := (s[k]'hlt).toNat_lt; omega)).mono ?_
      rintro e w' ⟨rfl, nd, rfl⟩
      rw [eb]
      rcases hb : P (l.getD k 0) with _ | _
      · go_wp2
        go_ret
        have hkm : k = m := by
          have h1 := HAT.out
          rw [hb] at h1
          have : ¬ k < m := fun h => by have := (h1.1 h).2; cases this
          omega
        exact ⟨by rw [← hkm]; rfl, hD.step nd⟩
      · go_wp2
        have hkm : k < m := HAT.out.2 ⟨by omega, hb⟩
        refine ⟨⟨k + 1, hkm, by simp, hD.step nd⟩, by simp [intOf]; omega⟩
    · have d1 : decide ((k : Int) < (s.size : Int)) = false := decide_eq_false (by omega)
      have hkm : k = m := by
        have : ¬ k < m := fun h => by have := (hat.1 h).1; omega
        omega
      clear hget hat
      go_wp2
      go_ret
      exact ⟨by rw [← hkm]; rfl, hD⟩
end Go.Proofs.YtaikpnenegifnaaGreatDoor

/- lex.run at the four functions that lex hands to it: the length of the longest beginning whose bytes satisfy the function. -/
namespace Go.Proofs.YtaikpnenegifnaaGreatDoor
set_option linter.unusedVariables false
open Go.RowKit Go.Proofs.YtaikpnenegifnaaGreatDoorW.PrintWords Go.Proofs.YtaikpnenegifnaaGreatDoor.XL
/-- A byte of a version's run: a digit or a point. -/
def isP (b : UInt8) : Bool := isD b || b == 46

theorem of_byte {c : Int} (h0 : 0 ≤ c) (h1 : c ≤ 255) : ((UInt8.ofNat c.toNat).toNat : Int) = c := by
  rw [UInt8.toNat_ofNat_of_lt' (by show c.toNat < 256; omega)]; omega
theorem of_byteN {c : Int} (h0 : 0 ≤ c) (h1 : c ≤ 255) : (UInt8.ofNat c.toNat).toNat = c.toNat := by
  rw [UInt8.toNat_ofNat_of_lt' (by show c.toNat < 256; omega)]
theorem u8_eq {b : UInt8} {n : Nat} (hn : n < 256) : (b == UInt8.ofNat n) = decide (b.toNat = n) := by
  rw [Bool.eq_iff_iff]
  simp only [beq_iff_eq, decide_eq_true_eq]
  constructor
  · intro h; rw [h, UInt8.toNat_ofNat_of_lt' (by show n < 256; omega)]
  · intro h; apply UInt8.toNat_inj.1; rw [h, UInt8.toNat_ofNat_of_lt' (by show n < 256; omega)]

theorem digit_f {c : Int} (h0 : 0 ≤ c) (h1 : c ≤ 255) : lex_digit.f c = some (isD (UInt8.ofNat c.toNat)) := by
  unfold lex_digit.f isD
  rw [of_byteN h0 h1]
  by_cases h : c ≥ 48
  · rw [if_pos h]; congr 1; rw [Bool.eq_iff_iff]; simp; omega
  · rw [if_neg h]; congr 1; symm; rw [Bool.eq_false_iff]; simp; omega
theorem small_f {c : Int} (h0 : 0 ≤ c) (h1 : c ≤ 255) : lex_small.f c = some (isS (UInt8.ofNat c.toNat)) := by
  unfold lex_small.f isS
  rw [of_byteN h0 h1]
  by_cases h : c ≥ 97
  · rw [if_pos h]; congr 1; rw [Bool.eq_iff_iff]; simp; omega
  · rw [if_neg h]; congr 1; symm; rw [Bool.eq_false_iff]; simp; omega
theorem great_f {c : Int} (h0 : 0 ≤ c) (h1 : c ≤ 255) : lex_great.f c = some (isG (UInt8.ofNat c.toNat)) := by
  unfold lex_great.f isG
  rw [of_byteN h0 h1]
  by_cases h : c ≥ 65
  · rw [if_pos h]; congr 1; rw [Bool.eq_iff_iff]; simp; omega
  · rw [if_neg h]; congr 1; symm; rw [Bool.eq_false_iff]; simp; omega
theorem byte_is {c : Int} (h0 : 0 ≤ c) (h1 : c ≤ 255) (n : Nat) (hn : n < 256) : (UInt8.ofNat c.toNat == UInt8.ofNat n) = decide (c = n) := by
  rw [u8_eq hn, of_byteN h0 h1]
  congr 1
  rw [eq_iff_iff]; omega
theorem named_f {c : Int} (h0 : 0 ≤ c) (h1 : c ≤ 255) : lex_named.f c = some (isN (UInt8.ofNat c.toNat)) := by
  unfold lex_named.f isN isV
  have e95 : (UInt8.ofNat c.toNat == 95) = decide (c = 95) := byte_is h0 h1 95 (by decide)
  have e39 : (UInt8.ofNat c.toNat == 39) = decide (c = 39) := byte_is h0 h1 39 (by decide)
  rw [small_f h0 h1, great_f h0 h1, digit_f h0 h1, e95, e39]
  simp only [Option.bind_some]
  cases isS (UInt8.ofNat c.toNat) <;> cases isG (UInt8.ofNat c.toNat) <;> cases isD (UInt8.ofNat c.toNat) <;> simp
  by_cases h : c = 95 <;> simp [h]
  by_cases h : c = 39 <;> simp [h]

theorem named_walk (c : Int) (W : World) (h0 : 0 ≤ c) (h1 : c ≤ 255) : Calls Tryz.prog 79 #[.int .u8 c] W fun e w' => e = .returned (.bool (isN (UInt8.ofNat c.toNat))) ∧ Drawn0 W w' :=
  lex_named.calls c _ W (named_f h0 h1)
theorem digit_walk (c : Int) (W : World) (h0 : 0 ≤ c) (h1 : c ≤ 255) : Calls Tryz.prog 53 #[.int .u8 c] W fun e w' => e = .returned (.bool (isD (UInt8.ofNat c.toNat))) ∧ Drawn0 W w' :=
  lex_digit.calls c _ W (digit_f h0 h1)
theorem isV_isN (b : UInt8) : isV b = (isN b && !(b == 39)) := by
  unfold isN
  by_cases h : b = 39
  · subst h; decide
  · have : (b == 39) = false := by simpa using h
    rw [this]; simp
set_option maxHeartbeats 1000000 in
theorem var_walk (c : Int) (W : World) (h0 : 0 ≤ c) (h1 : c ≤ 255) : Calls Tryz.prog 80 #[.int .u8 c] W fun e w' => e = .returned (.bool (isV (UInt8.ofNat c.toNat))) ∧ Drawn0 W w' := by
  have e39 : (UInt8.ofNat c.toNat == 39) = decide (c = 39) := byte_is h0 h1 39 (by decide)
  rw [isV_isN, e39]
  have hw := fun W => named_walk c W h0 h1
  cases hN : isN (UInt8.ofNat c.toNat) with
  | false =>
    rw [hN] at hw
    have HW := Aside0.mk hw
    clear hw hN
    rw [Bool.false_and]
    go_enter Tryz.func80, Tryz.ntmps80
    go_wp2_with (go_at_call 79; refine (HW.out _).mono ?_; rintro e w' ⟨rfl, nd, rfl⟩)
    go_ret
    first
      | exact ⟨rfl, ⟨nd, rfl⟩⟩
      | exact ⟨by rw [ret_bool]; rfl, ⟨nd, rfl⟩⟩
  | true =>
    rw [hN] at hw
    have HW := Aside0.mk hw
    clear hw hN
    rw [Bool.true_and]
    go_enter Tryz.func80, Tryz.ntmps80
    go_wp2_with (go_at_call 79; refine (HW.out _).mono ?_; rintro e w' ⟨rfl, nd, rfl⟩)
    go_ret
    first
      | exact ⟨rfl, ⟨nd, rfl⟩⟩
      | exact ⟨by rw [ret_bool]; rfl, ⟨nd, rfl⟩⟩
set_option maxHeartbeats 1000000 in
theorem ver_walk (c : Int) (W : World) (h0 : 0 ≤ c) (h1 : c ≤ 255) : Calls Tryz.prog 110 #[.int .u8 c] W fun e w' => e = .returned (.bool (isP (UInt8.ofNat c.toNat))) ∧ Drawn0 W w' := by
  unfold isP
  have e46 : (UInt8.ofNat c.toNat == 46) = decide (c = 46) := byte_is h0 h1 46 (by decide)
  rw [e46]
  have hw := fun W => digit_walk c W h0 h1
  cases hN : isD (UInt8.ofNat c.toNat) with
  | false =>
    rw [hN] at hw
    have HW := Aside0.mk hw
    clear hw hN
    rw [Bool.false_or]
    go_enter Tryz.func110, Tryz.ntmps110
    go_wp2_with (go_at_call 53; refine (HW.out _).mono ?_; rintro e w' ⟨rfl, nd, rfl⟩)
    go_ret
    first
      | exact ⟨rfl, ⟨nd, rfl⟩⟩
      | exact ⟨by rw [ret_bool]; rfl, ⟨nd, rfl⟩⟩
  | true =>
    rw [hN] at hw
    have HW := Aside0.mk hw
    clear hw hN
    rw [Bool.true_or]
    go_enter Tryz.func110, Tryz.ntmps110
    go_wp2_with (go_at_call 53; refine (HW.out _).mono ?_; rintro e w' ⟨rfl, nd, rfl⟩)
    go_ret
    first
      | exact ⟨rfl, ⟨nd, rfl⟩⟩
      | exact ⟨by rw [ret_bool]; rfl, ⟨nd, rfl⟩⟩

def lex_run.f (a0 : ByteArray) (g : Nat) : Option Int :=
  if a0.size ≤ 1000000 then
    (if g = 79 then some ((a0.data.toList.takeWhile isN).length : Nat)
     else if g = 80 then some ((a0.data.toList.takeWhile isV).length : Nat)
     else if g = 53 then some ((a0.data.toList.takeWhile isD).length : Nat)
     else if g = 110 then some ((a0.data.toList.takeWhile isP).length : Nat)
     else none)
  else none
theorem lex_run.calls (a0 : ByteArray) (g : Nat) (r : Int) (w : World) (h : lex_run.f a0 g = some r) :
    Calls Tryz.prog 78 #[.string a0, .func (.func g) #[] #[]] w fun e w' => e = .returned (.int .i64 r) ∧ Drawn0 w w' := by
  unfold lex_run.f at h
  split at h
  · rename_i hs
    split at h
    · rename_i e; subst e
      obtain rfl := Option.some.inj h
      exact run_walk _ isN named_walk (enters_of Tryz.func79 (by kernel_rfl) rfl) a0 hs w
    · split at h
      · rename_i e; subst e
        obtain rfl := Option.some.inj h
        exact run_walk _ isV var_walk (enters_of Tryz.func80 (by kernel_rfl) rfl) a0 hs w
      · split at h
        · rename_i e; subst e
          obtain rfl := Option.some.inj h
          exact run_walk _ isD digit_walk (enters_of Tryz.func53 (by kernel_rfl) rfl) a0 hs w
        · split at h
          · rename_i e; subst e
            obtain rfl := Option.some.inj h
            exact run_walk _ isP ver_walk (enters_of Tryz.func110 (by kernel_rfl) rfl) a0 hs w
          · cases h
  · cases h
end Go.Proofs.YtaikpnenegifnaaGreatDoor

-- written by wip/xp.py, a program of this project's session, over the kit's printer
namespace Go.Proofs.YtaikpnenegifnaaGreatDoor.XL
open Go.RowKit Go.Proofs.YtaikpnenegifnaaGreatDoorW.PrintWords Go.Proofs.YtaikpnenegifnaaGreatDoorW.PrintLast Go.Proofs.YtaikpnenegifnaaGreatDoorW.PrintMore
attribute [local go_sem] max2_int min2_int max_two min_two max_three min_three max_four min_four   -- for this text's walks alone
set_option linter.unusedVariables false
set_option linter.unusedSimpArgs false

/-! ### lex_version: function 82 -/
def lex_version.l0 : Nat → ByteArray → Int → Option (Int × ByteArray × Int × Int × Int × Bool)
  | 0, _, _ => none
  | k + 1, x0, x5 => if x5 > 0 then (if 0 ≤ x5 then (if x5 ≤ (x0.size : Int) then ((semver_Parse.f (x0.extract 0 (x5 : Int).toNat)).bind fun bt297 => (if bt297.2.2.2 = 0 then (some (6, x0.extract 0 (x5 : Int).toNat, 0, 0, x5, true)) else (lex_version.l0 k x0 (wrap64 (x5 - 1))))) else (none)) else (none)) else (some (0, (⟨#[]⟩ : ByteArray), 0, 0, 0, false))
def lex_version.f (k : Nat) (a0 : ByteArray) : Option (Int × ByteArray × Int × Int × Int × Bool) := (lex_run.f a0 110).bind fun t296 => (lex_version.l0 k a0 t296)
theorem lex_version.mono_l : ∀ k, (∀ y0 y1, LeO (lex_version.l0 k y0 y1) (lex_version.l0 (k + 1) y0 y1))
  | 0 => fun _ _ r h => by simp [lex_version.l0] at h
  | k + 1 => by
    have ih0 := lex_version.mono_l k
    · intro y0 y1
      unfold lex_version.l0
      repeat' first
      | (with_reducible exact ih0 _ _)
      | (with_reducible exact LeO.refl _)
      | (with_reducible exact LeO.none _)
      | (with_reducible refine LeO.ite ?_ ?_)
      | (with_reducible refine LeO.bind ?_ (fun _ => ?_))
      | exact ih0 _ _
      | exact LeO.none _
      | refine LeO.ite ?_ ?_
      | refine LeO.bind ?_ (fun _ => ?_)
theorem lex_version.mono : ∀ a0 k, LeO (lex_version.f k a0) (lex_version.f (k + 1) a0) := by
  intro a0 k
  have ih0 := lex_version.mono_l k
  unfold lex_version.f
  repeat' first
      | (with_reducible exact ih0 _ _)
      | (with_reducible exact LeO.refl _)
      | (with_reducible exact LeO.none _)
      | (with_reducible refine LeO.ite ?_ ?_)
      | (with_reducible refine LeO.bind ?_ (fun _ => ?_))
      | exact ih0 _ _
      | exact LeO.none _
      | refine LeO.ite ?_ ?_
      | refine LeO.bind ?_ (fun _ => ?_)
set_option maxHeartbeats 8000000 in
set_option maxRecDepth 100000 in
theorem lex_version.calls (k : Nat) (a0 : ByteArray) (r1 : Int) (r2 : ByteArray) (r3 : Int) (r4 : Int) (r5 : Int) (r6 : Bool) (w : World) (hE : EnvOk w) (h : lex_version.f k a0 = some (r1, r2, r3, r4, r5, r6)) :
    Calls Tryz.prog 82 #[.string a0] w fun e w' => e = .returned (.tuple #[.agg #[.int .i64 r1, .string r2, .int .i64 r3, .int .i64 r4], .int .i64 r5, .bool r6]) ∧ Below w.heap.size w w' := by
  have hu32 := Tryz.underlying32
  have hu44 := Tryz.underlying44
  have HE := Aside0.mk hE
  clear hE
  have HB := Aside0.mk (Below.refl w.heap.size w)
  have H : ((lex_run.f a0 110).bind fun t296 => (lex_version.l0 k a0 t296)) = some (r1, r2, r3, r4, r5, r6) := h
  clear h
  replace H := Option.bind_eq_some_iff.mp H
  obtain ⟨t296, A20, H⟩ := H
  replace H : (lex_version.l0 k a0 t296) = some (r1, r2, r3, r4, r5, r6) := H
  have A2 := Aside0.mk A20
  clear A20
  have H' := Aside0.mk H
  clear H
  go_enter Tryz.func82, Tryz.ntmps82
  go_wp2_with (first | ((with_reducible refine gate_dst (N := 2) rfl ?_); refine box_event ?hg (N := 2) ?hd (cs := #[.int .i64 0, .string (⟨#[]⟩ : ByteArray), .int .i64 0, .int .i64 0]) (t := 32) ?hr ?_; (case hd => rfl); (case hg => rfl); (case hr => first | (go_simp; done) | (go_simp; rfl)); intro gb295 hg w3 hbox hb; have n0_ := Aside0.mk (below_step (by repeat (first | (with_reducible first | exact HB.out | apply below_alloc | apply pw_below_drewN | apply below_drew1) | exact HB.out)) hb); have n1_ := Aside0.mk (hbox); have n2_ := Aside0.mk ((by rw [hg]; exact (below_size (by repeat (first | (with_reducible first | exact HB.out | apply below_alloc | apply pw_below_drewN | apply below_drew1) | exact HB.out))) : w.heap.size ≤ gb295)); have n3_ := Aside0.mk ((by rw [hg]; exact (below_size (by repeat (first | (with_reducible first | exact HB.out | apply below_alloc | apply pw_below_drewN | apply below_drew1) | exact HB.out))) : w.heap.size ≤ gb295)); clear HB; have HB := n0_; have BK295 := n1_; have GW295 := n2_; have GE295 := n3_; clear n0_ n1_ n2_ n3_; clear hb hbox hg) | ((with_reducible refine gate_callee (f := 78) rfl ?_); refine goesL_ (some 9) rfl rfl Tryz.func78 (by kernel_rfl) rfl #[.string a0, .func (.func 110) #[] #[]] rfl (by (try simp only [List.map_toArray, List.map_cons, List.map_nil]); first | done | rfl | (simp only [List.length_drop, List.length_take]; rfl)) ?_; (with_reducible refine (lex_run.calls a0 110 t296 _ A2.out).mono ?_); rintro e w' ⟨rfl, ⟨nd, rfl⟩⟩; refine ⟨_, rfl, ?_⟩))
  go_loopg [5] k (fun kq v5 w' => ∃ (x5_1 : Int) (x296000_1 : Int) (x296001_1 : ByteArray) (x296002_1 : Int) (x296003_1 : Int), v5 = .int .i64 x5_1 ∧ Aside0 (lex_version.l0 kq a0 x5_1 = some (r1, r2, r3, r4, r5, r6)) ∧ Aside0 (kq ≤ k) ∧ Aside0 (w'.heap[gb295]? = some (.cells #[.int .i64 x296000_1, .string x296001_1, .int .i64 x296002_1, .int .i64 x296003_1] 32 (0, 0))) ∧ Aside0 (Below w.heap.size w w'))
  case atStart => exact ⟨(t296), (0), ((⟨#[]⟩ : ByteArray)), (0), (0), (by first | rfl | (simp; done) | (simp [*]; done)), H', ⟨Nat.le_refl _⟩, ⟨by (with_reducible repeat (first | refine blk_drewN ?_ _ | refine blk_drew ?_ | refine blk_alloc ?_ _)); exact BK295.out⟩, ⟨by repeat (first | (with_reducible first | exact HB.out | apply below_alloc | apply pw_below_drewN | apply below_drew1 | refine below_set ?_ GE295.out) | exact HB.out)⟩⟩
  case round =>
   clear H'
   try clear p2
   obtain ⟨x5_1, x296000_1, x296001_1, x296002_1, x296003_1, rfl, HA, HK1, BK295, HB⟩ := hrel
   cases gk with
   | zero => exact absurd HA.out (by simp [lex_version.l0])
   | succ k1 =>
    have H := HA.out
    clear HA
    simp only [lex_version.l0] at H
    by_cases c4 : x5_1 > 0
    ·rw [if_pos c4] at H
     have c4b0 : decide (0 < x5_1) = true := decide_eq_true c4
     clear c4
     by_cases c5 : 0 ≤ x5_1
     ·rw [if_pos c5] at H
      have c5b0 := eq_true c5
      have c5b1 : decide (0 ≤ x5_1) = true := decide_eq_true c5
      clear c5
      by_cases c6 : x5_1 ≤ (a0.size : Int)
      ·rw [if_pos c6] at H
       have c6b0 := eq_true c6
       have c6b1 : decide (x5_1 ≤ (a0.size : Int)) = true := decide_eq_true c6
       clear c6
       replace H := Option.bind_eq_some_iff.mp H
       obtain ⟨⟨t297, t298, t299, t300⟩, A70, H⟩ := H
       replace H : (if t300 = 0 then (some (6, a0.extract 0 (x5_1 : Int).toNat, 0, 0, x5_1, true)) else (lex_version.l0 k1 a0 (wrap64 (x5_1 - 1)))) = some (r1, r2, r3, r4, r5, r6) := H
       have A7 := Aside0.mk A70
       clear A70
       by_cases c8 : t300 = 0
       ·rw [if_pos c8] at H
        have c8b0 : (t300 == 0) = true := beq_iff_eq.mpr c8
        have c8b1 : (t300 != 0) = false := bne_eq_false_iff_eq.mpr c8
        clear c8
        have c9b0 := eq_true (of_decide_eq_true (by first | (with_reducible assumption) | assumption) : 0 ≤ x5_1)
        have c10b0 := eq_true (of_decide_eq_true (by first | (with_reducible assumption) | assumption) : x5_1 ≤ (a0.size : Int))
        simp only [Option.some.injEq, Prod.mk.injEq] at H
        obtain ⟨rfl, rfl, rfl, rfl, rfl, rfl⟩ := H
        go_wp2_with (first | ((with_reducible refine gate_callee (f := 34) rfl ?_); refine goesL_ (some 16) rfl rfl Tryz.func34 (by kernel_rfl) rfl #[.string (a0.extract 0 (x5_1 : Int).toNat)] rfl (by (try simp only [List.map_toArray, List.map_cons, List.map_nil]); first | done | rfl | (simp only [List.length_drop, List.length_take]; rfl)) ?_; (with_reducible refine (semver_Parse.calls (a0.extract 0 (x5_1 : Int).toNat) t297 t298 t299 t300 _ ?side1 A7.out).mono ?_); (case side1 => exact EnvOk.below HE.out (by repeat (first | (with_reducible first | exact HB.out | apply below_alloc | apply pw_below_drewN | apply below_drew1 | refine below_set ?_ GE295.out) | exact HB.out))); rintro e w11 ⟨rfl, hb⟩; refine ⟨_, rfl, ?_⟩; have n0_ := Aside0.mk (blk_below (g := gb295) (o := .cells #[.int .i64 x296000_1, .string x296001_1, .int .i64 x296002_1, .int .i64 x296003_1] 32 (0, 0)) (by (with_reducible repeat (first | refine blk_drewN ?_ _ | refine blk_drew ?_ | refine blk_alloc ?_ _)); exact BK295.out) hb); have n1_ := Aside0.mk (below_step (by repeat (first | (with_reducible first | exact HB.out | apply below_alloc | apply pw_below_drewN | apply below_drew1 | refine below_set ?_ GE295.out) | exact HB.out)) hb); clear BK295; clear HB; have BK295 := n0_; have HB := n1_; clear n0_ n1_; (try clear hb); (try clear hb2); (try clear hk); (try clear hi)) | ((with_reducible refine gate_dst (N := 6) rfl ?_); refine box_event ?hg (N := 6) ?hd (cs := #[.int .i64 0, .int .i64 0, .int .i64 0]) (t := 44) ?hr ?_; (case hd => rfl); (case hg => rfl); (case hr => first | (go_simp; done) | (go_simp; rfl)); intro gb301 hg w12 hbox hb; have n0_ := Aside0.mk (blk_below (g := gb295) (o := .cells #[.int .i64 x296000_1, .string x296001_1, .int .i64 x296002_1, .int .i64 x296003_1] 32 (0, 0)) (by (with_reducible repeat (first | refine blk_drewN ?_ _ | refine blk_drew ?_ | refine blk_alloc ?_ _)); exact BK295.out) hb); have n1_ := Aside0.mk (below_step (by repeat (first | (with_reducible first | exact HB.out | apply below_alloc | apply pw_below_drewN | apply below_drew1 | refine below_set ?_ GE295.out) | exact HB.out)) hb); have n2_ := Aside0.mk (hbox); have n3_ := Aside0.mk ((by rw [hg]; exact (below_size (by repeat (first | (with_reducible first | exact HB.out | apply below_alloc | apply pw_below_drewN | apply below_drew1 | refine below_set ?_ GE295.out) | exact HB.out))) : w.heap.size ≤ gb301)); have n4_ := Aside0.mk ((by rw [hg]; exact (below_size (by repeat (first | (with_reducible first | exact HB.out | apply below_alloc | apply pw_below_drewN | apply below_drew1 | refine below_set ?_ GE295.out) | exact HB.out))) : w.heap.size ≤ gb301)); have n5_ := Aside0.mk ((by rw [hg]; exact Nat.ne_of_lt (blk_lt (g := gb295) (o := .cells #[.int .i64 x296000_1, .string x296001_1, .int .i64 x296002_1, .int .i64 x296003_1] 32 (0, 0)) (by (with_reducible repeat (first | refine blk_drewN ?_ _ | refine blk_drew ?_ | refine blk_alloc ?_ _)); exact BK295.out)) : gb295 ≠ gb301)); have n6_ := Aside0.mk ((by rw [hg]; exact Nat.ne_of_gt (blk_lt (g := gb295) (o := .cells #[.int .i64 x296000_1, .string x296001_1, .int .i64 x296002_1, .int .i64 x296003_1] 32 (0, 0)) (by (with_reducible repeat (first | refine blk_drewN ?_ _ | refine blk_drew ?_ | refine blk_alloc ?_ _)); exact BK295.out)) : gb301 ≠ gb295)); clear BK295; clear HB; have BK295 := n0_; have HB := n1_; have BK301 := n2_; have GW301 := n3_; have GE301 := n4_; have NB295_301 := n5_; have NB301_295 := n6_; clear n0_ n1_ n2_ n3_ n4_ n5_ n6_; clear hb hbox hg; have hnb13 := NB301_295.out; have hnc13 := NB295_301.out; have hcz14_0 : w12.cell? ⟨gb301, 0, none⟩ = some (.int .i64 0) := (blk_cell BK301.out 0).trans rfl; have hcz14_1 : w12.cell? ⟨gb301, 1, none⟩ = some (.int .i64 0) := (blk_cell BK301.out 1).trans rfl; have hcz14_2 : w12.cell? ⟨gb301, 2, none⟩ = some (.int .i64 0) := (blk_cell BK301.out 2).trans rfl; have hfz14_0 := blk_frozen BK301.out 0; have hfz14_1 := blk_frozen BK301.out 1; have hfz14_2 := blk_frozen BK301.out 2; have hcz15_0 : w12.cell? ⟨gb295, 0, none⟩ = some (.int .i64 x296000_1) := (blk_cell BK295.out 0).trans rfl; have hcz15_1 : w12.cell? ⟨gb295, 1, none⟩ = some (.string x296001_1) := (blk_cell BK295.out 1).trans rfl; have hcz15_2 : w12.cell? ⟨gb295, 2, none⟩ = some (.int .i64 x296002_1) := (blk_cell BK295.out 2).trans rfl; have hcz15_3 : w12.cell? ⟨gb295, 3, none⟩ = some (.int .i64 x296003_1) := (blk_cell BK295.out 3).trans rfl; have hfz15_0 := blk_frozen BK295.out 0; have hfz15_1 := blk_frozen BK295.out 1; have hfz15_2 := blk_frozen BK295.out 2; have hfz15_3 := blk_frozen BK295.out 3))
        refine bodyPost_ret (results_ctt rfl _ _ gb295 32 #[.int .i64 6, .string (a0.extract 0 (x5_1 : Int).toNat), .int .i64 0, .int .i64 0] (0, 0) _ rfl (by (with_reducible repeat (first | refine blk_drewN ?_ _ | refine blk_drew ?_ | refine blk_alloc ?_ _)); refine blk_put (cs := #[.int .i64 6, .string (a0.extract 0 (x5_1 : Int).toNat), .int .i64 0, .int .i64 x296003_1]) ?_ 3 _ rfl; (with_reducible repeat (first | refine blk_drewN ?_ _ | refine blk_drew ?_ | refine blk_alloc ?_ _)); refine blk_put (cs := #[.int .i64 6, .string (a0.extract 0 (x5_1 : Int).toNat), .int .i64 x296002_1, .int .i64 x296003_1]) ?_ 2 _ rfl; (with_reducible repeat (first | refine blk_drewN ?_ _ | refine blk_drew ?_ | refine blk_alloc ?_ _)); refine blk_put (cs := #[.int .i64 6, .string x296001_1, .int .i64 x296002_1, .int .i64 x296003_1]) ?_ 1 _ rfl; (with_reducible repeat (first | refine blk_drewN ?_ _ | refine blk_drew ?_ | refine blk_alloc ?_ _)); refine blk_put (cs := #[.int .i64 x296000_1, .string x296001_1, .int .i64 x296002_1, .int .i64 x296003_1]) ?_ 0 _ rfl; (with_reducible repeat (first | refine blk_drewN ?_ _ | refine blk_drew ?_ | refine blk_alloc ?_ _)); refine blk_far ?_ NB295_301.out _; (with_reducible repeat (first | refine blk_drewN ?_ _ | refine blk_drew ?_ | refine blk_alloc ?_ _)); refine blk_far ?_ NB295_301.out _; (with_reducible repeat (first | refine blk_drewN ?_ _ | refine blk_drew ?_ | refine blk_alloc ?_ _)); refine blk_far ?_ NB295_301.out _; (with_reducible repeat (first | refine blk_drewN ?_ _ | refine blk_drew ?_ | refine blk_alloc ?_ _)); exact BK295.out) Tryz.underlying32 rfl (by kernel_rfl)) rfl ?_
        exact ⟨by first | rfl | (simp [errW_none, errW_some] <;> rfl) | (simp [*, errW_none, errW_some] <;> rfl), by repeat (first | (with_reducible first | exact HB.out | apply below_alloc | apply pw_below_drewN | apply below_drew1 | refine below_set ?_ GE295.out | refine below_set ?_ GE301.out) | exact HB.out)⟩
       ·rw [if_neg c8] at H
        have c8b0 : (t300 == 0) = false := beq_eq_false_iff_ne.mpr c8
        have c8b1 : (t300 != 0) = true := bne_iff_ne.mpr c8
        have H' := Aside0.mk H
        clear H
        go_wp2_with (first | ((with_reducible refine gate_callee (f := 34) rfl ?_); refine goesL_ (some 16) rfl rfl Tryz.func34 (by kernel_rfl) rfl #[.string (a0.extract 0 (x5_1 : Int).toNat)] rfl (by (try simp only [List.map_toArray, List.map_cons, List.map_nil]); first | done | rfl | (simp only [List.length_drop, List.length_take]; rfl)) ?_; (with_reducible refine (semver_Parse.calls (a0.extract 0 (x5_1 : Int).toNat) t297 t298 t299 t300 _ ?side1 A7.out).mono ?_); (case side1 => exact EnvOk.below HE.out (by repeat (first | (with_reducible first | exact HB.out | apply below_alloc | apply pw_below_drewN | apply below_drew1 | refine below_set ?_ GE295.out) | exact HB.out))); rintro e w16 ⟨rfl, hb⟩; refine ⟨_, rfl, ?_⟩; have n0_ := Aside0.mk (blk_below (g := gb295) (o := .cells #[.int .i64 x296000_1, .string x296001_1, .int .i64 x296002_1, .int .i64 x296003_1] 32 (0, 0)) (by (with_reducible repeat (first | refine blk_drewN ?_ _ | refine blk_drew ?_ | refine blk_alloc ?_ _)); exact BK295.out) hb); have n1_ := Aside0.mk (below_step (by repeat (first | (with_reducible first | exact HB.out | apply below_alloc | apply pw_below_drewN | apply below_drew1 | refine below_set ?_ GE295.out) | exact HB.out)) hb); clear BK295; clear HB; have BK295 := n0_; have HB := n1_; clear n0_ n1_; (try clear hb); (try clear hb2); (try clear hk); (try clear hi)) | ((with_reducible refine gate_dst (N := 6) rfl ?_); refine box_event ?hg (N := 6) ?hd (cs := #[.int .i64 0, .int .i64 0, .int .i64 0]) (t := 44) ?hr ?_; (case hd => rfl); (case hg => rfl); (case hr => first | (go_simp; done) | (go_simp; rfl)); intro gb301 hg w17 hbox hb; have n0_ := Aside0.mk (blk_below (g := gb295) (o := .cells #[.int .i64 x296000_1, .string x296001_1, .int .i64 x296002_1, .int .i64 x296003_1] 32 (0, 0)) (by (with_reducible repeat (first | refine blk_drewN ?_ _ | refine blk_drew ?_ | refine blk_alloc ?_ _)); exact BK295.out) hb); have n1_ := Aside0.mk (below_step (by repeat (first | (with_reducible first | exact HB.out | apply below_alloc | apply pw_below_drewN | apply below_drew1 | refine below_set ?_ GE295.out) | exact HB.out)) hb); have n2_ := Aside0.mk (hbox); have n3_ := Aside0.mk ((by rw [hg]; exact (below_size (by repeat (first | (with_reducible first | exact HB.out | apply below_alloc | apply pw_below_drewN | apply below_drew1 | refine below_set ?_ GE295.out) | exact HB.out))) : w.heap.size ≤ gb301)); have n4_ := Aside0.mk ((by rw [hg]; exact (below_size (by repeat (first | (with_reducible first | exact HB.out | apply below_alloc | apply pw_below_drewN | apply below_drew1 | refine below_set ?_ GE295.out) | exact HB.out))) : w.heap.size ≤ gb301)); have n5_ := Aside0.mk ((by rw [hg]; exact Nat.ne_of_lt (blk_lt (g := gb295) (o := .cells #[.int .i64 x296000_1, .string x296001_1, .int .i64 x296002_1, .int .i64 x296003_1] 32 (0, 0)) (by (with_reducible repeat (first | refine blk_drewN ?_ _ | refine blk_drew ?_ | refine blk_alloc ?_ _)); exact BK295.out)) : gb295 ≠ gb301)); have n6_ := Aside0.mk ((by rw [hg]; exact Nat.ne_of_gt (blk_lt (g := gb295) (o := .cells #[.int .i64 x296000_1, .string x296001_1, .int .i64 x296002_1, .int .i64 x296003_1] 32 (0, 0)) (by (with_reducible repeat (first | refine blk_drewN ?_ _ | refine blk_drew ?_ | refine blk_alloc ?_ _)); exact BK295.out)) : gb301 ≠ gb295)); clear BK295; clear HB; have BK295 := n0_; have HB := n1_; have BK301 := n2_; have GW301 := n3_; have GE301 := n4_; have NB295_301 := n5_; have NB301_295 := n6_; clear n0_ n1_ n2_ n3_ n4_ n5_ n6_; clear hb hbox hg; have hnb18 := NB301_295.out; have hnc18 := NB295_301.out; have hcz19_0 : w17.cell? ⟨gb301, 0, none⟩ = some (.int .i64 0) := (blk_cell BK301.out 0).trans rfl; have hcz19_1 : w17.cell? ⟨gb301, 1, none⟩ = some (.int .i64 0) := (blk_cell BK301.out 1).trans rfl; have hcz19_2 : w17.cell? ⟨gb301, 2, none⟩ = some (.int .i64 0) := (blk_cell BK301.out 2).trans rfl; have hfz19_0 := blk_frozen BK301.out 0; have hfz19_1 := blk_frozen BK301.out 1; have hfz19_2 := blk_frozen BK301.out 2))
        go_roundg k1
        case measure => have := HK1.out; omega
        case rel => exact ⟨(wrap64 (x5_1 - 1)), (x296000_1), (x296001_1), (x296002_1), (x296003_1), (by first | rfl | (simp; done) | (simp [*]; done)), H', ⟨by have := HK1.out; omega⟩, ⟨by (with_reducible repeat (first | refine blk_drewN ?_ _ | refine blk_drew ?_ | refine blk_alloc ?_ _)); refine blk_far ?_ NB295_301.out _; (with_reducible repeat (first | refine blk_drewN ?_ _ | refine blk_drew ?_ | refine blk_alloc ?_ _)); refine blk_far ?_ NB295_301.out _; (with_reducible repeat (first | refine blk_drewN ?_ _ | refine blk_drew ?_ | refine blk_alloc ?_ _)); refine blk_far ?_ NB295_301.out _; (with_reducible repeat (first | refine blk_drewN ?_ _ | refine blk_drew ?_ | refine blk_alloc ?_ _)); exact BK295.out⟩, ⟨by repeat (first | (with_reducible first | exact HB.out | apply below_alloc | apply pw_below_drewN | apply below_drew1 | refine below_set ?_ GE295.out | refine below_set ?_ GE301.out) | exact HB.out)⟩⟩
      ·rw [if_neg c6] at H
       exact absurd H (by simp)
     ·rw [if_neg c5] at H
      exact absurd H (by simp)
    ·rw [if_neg c4] at H
     have c4b0 : decide (0 < x5_1) = false := decide_eq_false c4
     clear c4
     simp only [Option.some.injEq, Prod.mk.injEq] at H
     obtain ⟨rfl, rfl, rfl, rfl, rfl, rfl⟩ := H
     have hcz20_0 : wr.cell? ⟨gb295, 0, none⟩ = some (.int .i64 x296000_1) := (blk_cell BK295.out 0).trans rfl
     have hcz20_1 : wr.cell? ⟨gb295, 1, none⟩ = some (.string x296001_1) := (blk_cell BK295.out 1).trans rfl
     have hcz20_2 : wr.cell? ⟨gb295, 2, none⟩ = some (.int .i64 x296002_1) := (blk_cell BK295.out 2).trans rfl
     have hcz20_3 : wr.cell? ⟨gb295, 3, none⟩ = some (.int .i64 x296003_1) := (blk_cell BK295.out 3).trans rfl
     have hfz20_0 := blk_frozen BK295.out 0
     have hfz20_1 := blk_frozen BK295.out 1
     have hfz20_2 := blk_frozen BK295.out 2
     have hfz20_3 := blk_frozen BK295.out 3
     go_wp2
     refine bodyPost_ret (results_ctt rfl _ _ gb295 32 #[.int .i64 0, .string (⟨#[]⟩ : ByteArray), .int .i64 0, .int .i64 0] (0, 0) _ rfl (by (with_reducible repeat (first | refine blk_drewN ?_ _ | refine blk_drew ?_ | refine blk_alloc ?_ _)); refine blk_put (cs := #[.int .i64 0, .string (⟨#[]⟩ : ByteArray), .int .i64 0, .int .i64 x296003_1]) ?_ 3 _ rfl; (with_reducible repeat (first | refine blk_drewN ?_ _ | refine blk_drew ?_ | refine blk_alloc ?_ _)); refine blk_put (cs := #[.int .i64 0, .string (⟨#[]⟩ : ByteArray), .int .i64 x296002_1, .int .i64 x296003_1]) ?_ 2 _ rfl; (with_reducible repeat (first | refine blk_drewN ?_ _ | refine blk_drew ?_ | refine blk_alloc ?_ _)); refine blk_put (cs := #[.int .i64 0, .string x296001_1, .int .i64 x296002_1, .int .i64 x296003_1]) ?_ 1 _ rfl; (with_reducible repeat (first | refine blk_drewN ?_ _ | refine blk_drew ?_ | refine blk_alloc ?_ _)); refine blk_put (cs := #[.int .i64 x296000_1, .string x296001_1, .int .i64 x296002_1, .int .i64 x296003_1]) ?_ 0 _ rfl; (with_reducible repeat (first | refine blk_drewN ?_ _ | refine blk_drew ?_ | refine blk_alloc ?_ _)); exact BK295.out) Tryz.underlying32 rfl (by kernel_rfl)) rfl ?_
     exact ⟨by first | rfl | (simp [errW_none, errW_some] <;> rfl) | (simp [*, errW_none, errW_some] <;> rfl), by repeat (first | (with_reducible first | exact HB.out | apply below_alloc | apply pw_below_drewN | apply below_drew1 | refine below_set ?_ GE295.out) | exact HB.out)⟩

/-! ### lex_variable: function 50 -/
def lex_variable.f (a0 : ByteArray) : Option (Int × ByteArray × Int × Int × Int × Bool) := if 1 ≤ (a0.size : Int) then ((lex_run.f (a0.extract 1 a0.size) 80).bind fun t303 => (if (wrap64 (1 + t303)) > 30 then (some (0, (⟨#[]⟩ : ByteArray), 0, 0, 0, false)) else (if (wrap64 (1 + t303)) = 1 then (some (0, (⟨#[]⟩ : ByteArray), 0, 0, 0, false)) else (if 1 < (a0.size : Int) then ((lex_small.f (bt a0 1)).bind fun t304 => (if t304 = true then (if 1 ≤ (wrap64 (1 + t303)) then (if (wrap64 (1 + t303)) ≤ (a0.size : Int) then (some (3, a0.extract 1 ((wrap64 (1 + t303)) : Int).toNat, 0, 0, wrap64 (1 + t303), true)) else (none)) else (none)) else (some (0, (⟨#[]⟩ : ByteArray), 0, 0, 0, false)))) else (none))))) else (none)
set_option maxHeartbeats 8000000 in
set_option maxRecDepth 100000 in
theorem lex_variable.calls (a0 : ByteArray) (r1 : Int) (r2 : ByteArray) (r3 : Int) (r4 : Int) (r5 : Int) (r6 : Bool) (w : World) (h : lex_variable.f a0 = some (r1, r2, r3, r4, r5, r6)) :
    Calls Tryz.prog 50 #[.string a0] w fun e w' => e = .returned (.tuple #[.agg #[.int .i64 r1, .string r2, .int .i64 r3, .int .i64 r4], .int .i64 r5, .bool r6]) ∧ Below w.heap.size w w' := by
  have hu32 := Tryz.underlying32
  have HB := Aside0.mk (Below.refl w.heap.size w)
  have H : (if 1 ≤ (a0.size : Int) then ((lex_run.f (a0.extract 1 a0.size) 80).bind fun t303 => (if (wrap64 (1 + t303)) > 30 then (some (0, (⟨#[]⟩ : ByteArray), 0, 0, 0, false)) else (if (wrap64 (1 + t303)) = 1 then (some (0, (⟨#[]⟩ : ByteArray), 0, 0, 0, false)) else (if 1 < (a0.size : Int) then ((lex_small.f (bt a0 1)).bind fun t304 => (if t304 = true then (if 1 ≤ (wrap64 (1 + t303)) then (if (wrap64 (1 + t303)) ≤ (a0.size : Int) then (some (3, a0.extract 1 ((wrap64 (1 + t303)) : Int).toNat, 0, 0, wrap64 (1 + t303), true)) else (none)) else (none)) else (some (0, (⟨#[]⟩ : ByteArray), 0, 0, 0, false)))) else (none))))) else (none)) = some (r1, r2, r3, r4, r5, r6) := h
  clear h
  by_cases c2 : 1 ≤ (a0.size : Int)
  ·rw [if_pos c2] at H
   have c2b0 := eq_true c2
   have c2b1 : decide (1 ≤ (a0.size : Int)) = true := decide_eq_true c2
   clear c2
   replace H := Option.bind_eq_some_iff.mp H
   obtain ⟨t303, A30, H⟩ := H
   replace H : (if (wrap64 (1 + t303)) > 30 then (some (0, (⟨#[]⟩ : ByteArray), 0, 0, 0, false)) else (if (wrap64 (1 + t303)) = 1 then (some (0, (⟨#[]⟩ : ByteArray), 0, 0, 0, false)) else (if 1 < (a0.size : Int) then ((lex_small.f (bt a0 1)).bind fun t304 => (if t304 = true then (if 1 ≤ (wrap64 (1 + t303)) then (if (wrap64 (1 + t303)) ≤ (a0.size : Int) then (some (3, a0.extract 1 ((wrap64 (1 + t303)) : Int).toNat, 0, 0, wrap64 (1 + t303), true)) else (none)) else (none)) else (some (0, (⟨#[]⟩ : ByteArray), 0, 0, 0, false)))) else (none)))) = some (r1, r2, r3, r4, r5, r6) := H
   have A3 := Aside0.mk A30
   clear A30
   by_cases c4 : (wrap64 (1 + t303)) > 30
   ·rw [if_pos c4] at H
    have c4b0 : decide (30 < (wrap64 (1 + t303))) = true := decide_eq_true c4
    clear c4
    simp only [Option.some.injEq, Prod.mk.injEq] at H
    obtain ⟨rfl, rfl, rfl, rfl, rfl, rfl⟩ := H
    go_enter Tryz.func50, Tryz.ntmps50
    go_wp2_with (first | ((with_reducible refine gate_dst (N := 2) rfl ?_); refine box_event ?hg (N := 2) ?hd (cs := #[.int .i64 0, .string (⟨#[]⟩ : ByteArray), .int .i64 0, .int .i64 0]) (t := 32) ?hr ?_; (case hd => rfl); (case hg => rfl); (case hr => first | (go_simp; done) | (go_simp; rfl)); intro gb302 hg w5 hbox hb; have n0_ := Aside0.mk (below_step (by repeat (first | (with_reducible first | exact HB.out | apply below_alloc | apply pw_below_drewN | apply below_drew1) | exact HB.out)) hb); have n1_ := Aside0.mk (hbox); have n2_ := Aside0.mk ((by rw [hg]; exact (below_size (by repeat (first | (with_reducible first | exact HB.out | apply below_alloc | apply pw_below_drewN | apply below_drew1) | exact HB.out))) : w.heap.size ≤ gb302)); have n3_ := Aside0.mk ((by rw [hg]; exact (below_size (by repeat (first | (with_reducible first | exact HB.out | apply below_alloc | apply pw_below_drewN | apply below_drew1) | exact HB.out))) : w.heap.size ≤ gb302)); clear HB; have HB := n0_; have BK302 := n1_; have GW302 := n2_; have GE302 := n3_; clear n0_ n1_ n2_ n3_; clear hb hbox hg) | ((with_reducible refine gate_callee (f := 78) rfl ?_); refine goesL_ (some 8) rfl rfl Tryz.func78 (by kernel_rfl) rfl #[.string (a0.extract 1 a0.size), .func (.func 80) #[] #[]] rfl (by (try simp only [List.map_toArray, List.map_cons, List.map_nil]); first | done | rfl | (simp only [List.length_drop, List.length_take]; rfl)) ?_; (with_reducible refine (lex_run.calls (a0.extract 1 a0.size) 80 t303 _ A3.out).mono ?_); rintro e w' ⟨rfl, ⟨nd, rfl⟩⟩; refine ⟨_, rfl, ?_⟩; (try (rw [drewN_self w5]; generalize hq_ : World.drewN w5 _ = w5; have n0_ : Aside0 (w5.heap[gb302]? = some (.cells #[.int .i64 0, .string (⟨#[]⟩ : ByteArray), .int .i64 0, .int .i64 0] 32 (0, 0))) := ⟨by rw [← hq_]; exact (by (with_reducible repeat (first | refine blk_drewN ?_ _ | refine blk_drew ?_ | refine blk_alloc ?_ _)); exact BK302.out)⟩; have n1_ : Aside0 (Below w.heap.size w w5) := ⟨by rw [← hq_]; exact (by repeat (first | (with_reducible first | exact HB.out | apply below_alloc | apply pw_below_drewN | apply below_drew1 | refine below_set ?_ GE302.out) | exact HB.out))⟩; clear BK302 HB hq_; have BK302 := n0_; have HB := n1_; clear n0_ n1_)); have hcz6_0 : w5.cell? ⟨gb302, 0, none⟩ = some (.int .i64 0) := (blk_cell BK302.out 0).trans rfl; have hcz6_1 : w5.cell? ⟨gb302, 1, none⟩ = some (.string (⟨#[]⟩ : ByteArray)) := (blk_cell BK302.out 1).trans rfl; have hcz6_2 : w5.cell? ⟨gb302, 2, none⟩ = some (.int .i64 0) := (blk_cell BK302.out 2).trans rfl; have hcz6_3 : w5.cell? ⟨gb302, 3, none⟩ = some (.int .i64 0) := (blk_cell BK302.out 3).trans rfl; have hfz6_0 := blk_frozen BK302.out 0; have hfz6_1 := blk_frozen BK302.out 1; have hfz6_2 := blk_frozen BK302.out 2; have hfz6_3 := blk_frozen BK302.out 3))
    refine bodyPost_ret (results_ctt rfl _ _ gb302 32 #[.int .i64 0, .string (⟨#[]⟩ : ByteArray), .int .i64 0, .int .i64 0] (0, 0) _ rfl (by (with_reducible repeat (first | refine blk_drewN ?_ _ | refine blk_drew ?_ | refine blk_alloc ?_ _)); refine blk_put (cs := #[.int .i64 0, .string (⟨#[]⟩ : ByteArray), .int .i64 0, .int .i64 0]) ?_ 3 _ rfl; (with_reducible repeat (first | refine blk_drewN ?_ _ | refine blk_drew ?_ | refine blk_alloc ?_ _)); refine blk_put (cs := #[.int .i64 0, .string (⟨#[]⟩ : ByteArray), .int .i64 0, .int .i64 0]) ?_ 2 _ rfl; (with_reducible repeat (first | refine blk_drewN ?_ _ | refine blk_drew ?_ | refine blk_alloc ?_ _)); refine blk_put (cs := #[.int .i64 0, .string (⟨#[]⟩ : ByteArray), .int .i64 0, .int .i64 0]) ?_ 1 _ rfl; (with_reducible repeat (first | refine blk_drewN ?_ _ | refine blk_drew ?_ | refine blk_alloc ?_ _)); refine blk_put (cs := #[.int .i64 0, .string (⟨#[]⟩ : ByteArray), .int .i64 0, .int .i64 0]) ?_ 0 _ rfl; (with_reducible repeat (first | refine blk_drewN ?_ _ | refine blk_drew ?_ | refine blk_alloc ?_ _)); exact BK302.out) Tryz.underlying32 rfl (by kernel_rfl)) rfl ?_
    exact ⟨by first | rfl | (simp [errW_none, errW_some] <;> rfl) | (simp [*, errW_none, errW_some] <;> rfl), by repeat (first | (with_reducible first | exact HB.out | apply below_alloc | apply pw_below_drewN | apply below_drew1 | refine below_set ?_ GE302.out) | exact HB.out)⟩
   ·rw [if_neg c4] at H
    have c4b0 : decide (30 < (wrap64 (1 + t303))) = false := decide_eq_false c4
    clear c4
    by_cases c7 : (wrap64 (1 + t303)) = 1
    ·rw [if_pos c7] at H
     have c7b0 : ((wrap64 (1 + t303)) == 1) = true := beq_iff_eq.mpr c7
     have c7b1 : ((wrap64 (1 + t303)) != 1) = false := bne_eq_false_iff_eq.mpr c7
     clear c7
     simp only [Option.some.injEq, Prod.mk.injEq] at H
     obtain ⟨rfl, rfl, rfl, rfl, rfl, rfl⟩ := H
     go_enter Tryz.func50, Tryz.ntmps50
     go_wp2_with (first | ((with_reducible refine gate_dst (N := 2) rfl ?_); refine box_event ?hg (N := 2) ?hd (cs := #[.int .i64 0, .string (⟨#[]⟩ : ByteArray), .int .i64 0, .int .i64 0]) (t := 32) ?hr ?_; (case hd => rfl); (case hg => rfl); (case hr => first | (go_simp; done) | (go_simp; rfl)); intro gb302 hg w8 hbox hb; have n0_ := Aside0.mk (below_step (by repeat (first | (with_reducible first | exact HB.out | apply below_alloc | apply pw_below_drewN | apply below_drew1) | exact HB.out)) hb); have n1_ := Aside0.mk (hbox); have n2_ := Aside0.mk ((by rw [hg]; exact (below_size (by repeat (first | (with_reducible first | exact HB.out | apply below_alloc | apply pw_below_drewN | apply below_drew1) | exact HB.out))) : w.heap.size ≤ gb302)); have n3_ := Aside0.mk ((by rw [hg]; exact (below_size (by repeat (first | (with_reducible first | exact HB.out | apply below_alloc | apply pw_below_drewN | apply below_drew1) | exact HB.out))) : w.heap.size ≤ gb302)); clear HB; have HB := n0_; have BK302 := n1_; have GW302 := n2_; have GE302 := n3_; clear n0_ n1_ n2_ n3_; clear hb hbox hg) | ((with_reducible refine gate_callee (f := 78) rfl ?_); refine goesL_ (some 8) rfl rfl Tryz.func78 (by kernel_rfl) rfl #[.string (a0.extract 1 a0.size), .func (.func 80) #[] #[]] rfl (by (try simp only [List.map_toArray, List.map_cons, List.map_nil]); first | done | rfl | (simp only [List.length_drop, List.length_take]; rfl)) ?_; (with_reducible refine (lex_run.calls (a0.extract 1 a0.size) 80 t303 _ A3.out).mono ?_); rintro e w' ⟨rfl, ⟨nd, rfl⟩⟩; refine ⟨_, rfl, ?_⟩; (try (rw [drewN_self w8]; generalize hq_ : World.drewN w8 _ = w8; have n0_ : Aside0 (w8.heap[gb302]? = some (.cells #[.int .i64 0, .string (⟨#[]⟩ : ByteArray), .int .i64 0, .int .i64 0] 32 (0, 0))) := ⟨by rw [← hq_]; exact (by (with_reducible repeat (first | refine blk_drewN ?_ _ | refine blk_drew ?_ | refine blk_alloc ?_ _)); exact BK302.out)⟩; have n1_ : Aside0 (Below w.heap.size w w8) := ⟨by rw [← hq_]; exact (by repeat (first | (with_reducible first | exact HB.out | apply below_alloc | apply pw_below_drewN | apply below_drew1 | refine below_set ?_ GE302.out) | exact HB.out))⟩; clear BK302 HB hq_; have BK302 := n0_; have HB := n1_; clear n0_ n1_)); have hcz9_0 : w8.cell? ⟨gb302, 0, none⟩ = some (.int .i64 0) := (blk_cell BK302.out 0).trans rfl; have hcz9_1 : w8.cell? ⟨gb302, 1, none⟩ = some (.string (⟨#[]⟩ : ByteArray)) := (blk_cell BK302.out 1).trans rfl; have hcz9_2 : w8.cell? ⟨gb302, 2, none⟩ = some (.int .i64 0) := (blk_cell BK302.out 2).trans rfl; have hcz9_3 : w8.cell? ⟨gb302, 3, none⟩ = some (.int .i64 0) := (blk_cell BK302.out 3).trans rfl; have hfz9_0 := blk_frozen BK302.out 0; have hfz9_1 := blk_frozen BK302.out 1; have hfz9_2 := blk_frozen BK302.out 2; have hfz9_3 := blk_frozen BK302.out 3))
     refine bodyPost_ret (results_ctt rfl _ _ gb302 32 #[.int .i64 0, .string (⟨#[]⟩ : ByteArray), .int .i64 0, .int .i64 0] (0, 0) _ rfl (by (with_reducible repeat (first | refine blk_drewN ?_ _ | refine blk_drew ?_ | refine blk_alloc ?_ _)); refine blk_put (cs := #[.int .i64 0, .string (⟨#[]⟩ : ByteArray), .int .i64 0, .int .i64 0]) ?_ 3 _ rfl; (with_reducible repeat (first | refine blk_drewN ?_ _ | refine blk_drew ?_ | refine blk_alloc ?_ _)); refine blk_put (cs := #[.int .i64 0, .string (⟨#[]⟩ : ByteArray), .int .i64 0, .int .i64 0]) ?_ 2 _ rfl; (with_reducible repeat (first | refine blk_drewN ?_ _ | refine blk_drew ?_ | refine blk_alloc ?_ _)); refine blk_put (cs := #[.int .i64 0, .string (⟨#[]⟩ : ByteArray), .int .i64 0, .int .i64 0]) ?_ 1 _ rfl; (with_reducible repeat (first | refine blk_drewN ?_ _ | refine blk_drew ?_ | refine blk_alloc ?_ _)); refine blk_put (cs := #[.int .i64 0, .string (⟨#[]⟩ : ByteArray), .int .i64 0, .int .i64 0]) ?_ 0 _ rfl; (with_reducible repeat (first | refine blk_drewN ?_ _ | refine blk_drew ?_ | refine blk_alloc ?_ _)); exact BK302.out) Tryz.underlying32 rfl (by kernel_rfl)) rfl ?_
     exact ⟨by first | rfl | (simp [errW_none, errW_some] <;> rfl) | (simp [*, errW_none, errW_some] <;> rfl), by repeat (first | (with_reducible first | exact HB.out | apply below_alloc | apply pw_below_drewN | apply below_drew1 | refine below_set ?_ GE302.out) | exact HB.out)⟩
    ·rw [if_neg c7] at H
     have c7b0 : ((wrap64 (1 + t303)) == 1) = false := beq_eq_false_iff_ne.mpr c7
     have c7b1 : ((wrap64 (1 + t303)) != 1) = true := bne_iff_ne.mpr c7
     by_cases c10 : 1 < (a0.size : Int)
     ·rw [if_pos c10] at H
      have c10b0 : decide (1 < (a0.size : Int)) = true := decide_eq_true c10
      have c10b1 : decide (1 < a0.size) = true := decide_eq_true (by omega)
      clear c10
      replace H := Option.bind_eq_some_iff.mp H
      obtain ⟨t304, A120, H⟩ := H
      replace H : (if t304 = true then (if 1 ≤ (wrap64 (1 + t303)) then (if (wrap64 (1 + t303)) ≤ (a0.size : Int) then (some (3, a0.extract 1 ((wrap64 (1 + t303)) : Int).toNat, 0, 0, wrap64 (1 + t303), true)) else (none)) else (none)) else (some (0, (⟨#[]⟩ : ByteArray), 0, 0, 0, false))) = some (r1, r2, r3, r4, r5, r6) := H
      have A12 := Aside0.mk A120
      clear A120
      by_cases c13 : t304 = true
      ·subst c13
       have H1 : (if 1 ≤ (wrap64 (1 + t303)) then (if (wrap64 (1 + t303)) ≤ (a0.size : Int) then (some (3, a0.extract 1 ((wrap64 (1 + t303)) : Int).toNat, 0, 0, wrap64 (1 + t303), true)) else (none)) else (none)) = some (r1, r2, r3, r4, r5, r6) := by rw [if_pos rfl] at H; exact H
       clear H
       have H := H1
       clear H1
       by_cases c14 : 1 ≤ (wrap64 (1 + t303))
       ·rw [if_pos c14] at H
        have c14b0 := eq_true c14
        have c14b1 : decide (1 ≤ (wrap64 (1 + t303))) = true := decide_eq_true c14
        by_cases c15 : (wrap64 (1 + t303)) ≤ (a0.size : Int)
        ·rw [if_pos c15] at H
         have c15b0 := eq_true c15
         have c15b1 : decide ((wrap64 (1 + t303)) ≤ (a0.size : Int)) = true := decide_eq_true c15
         simp only [Option.some.injEq, Prod.mk.injEq] at H
         obtain ⟨rfl, rfl, rfl, rfl, rfl, rfl⟩ := H
         go_enter Tryz.func50, Tryz.ntmps50
         go_wp2_with (first | ((with_reducible refine gate_dst (N := 2) rfl ?_); refine box_event ?hg (N := 2) ?hd (cs := #[.int .i64 0, .string (⟨#[]⟩ : ByteArray), .int .i64 0, .int .i64 0]) (t := 32) ?hr ?_; (case hd => rfl); (case hg => rfl); (case hr => first | (go_simp; done) | (go_simp; rfl)); intro gb302 hg w16 hbox hb; have n0_ := Aside0.mk (below_step (by repeat (first | (with_reducible first | exact HB.out | apply below_alloc | apply pw_below_drewN | apply below_drew1) | exact HB.out)) hb); have n1_ := Aside0.mk (hbox); have n2_ := Aside0.mk ((by rw [hg]; exact (below_size (by repeat (first | (with_reducible first | exact HB.out | apply below_alloc | apply pw_below_drewN | apply below_drew1) | exact HB.out))) : w.heap.size ≤ gb302)); have n3_ := Aside0.mk ((by rw [hg]; exact (below_size (by repeat (first | (with_reducible first | exact HB.out | apply below_alloc | apply pw_below_drewN | apply below_drew1) | exact HB.out))) : w.heap.size ≤ gb302)); clear HB; have HB := n0_; have BK302 := n1_; have GW302 := n2_; have GE302 := n3_; clear n0_ n1_ n2_ n3_; clear hb hbox hg) | ((with_reducible refine gate_callee (f := 78) rfl ?_); refine goesL_ (some 8) rfl rfl Tryz.func78 (by kernel_rfl) rfl #[.string (a0.extract 1 a0.size), .func (.func 80) #[] #[]] rfl (by (try simp only [List.map_toArray, List.map_cons, List.map_nil]); first | done | rfl | (simp only [List.length_drop, List.length_take]; rfl)) ?_; (with_reducible refine (lex_run.calls (a0.extract 1 a0.size) 80 t303 _ A3.out).mono ?_); rintro e w' ⟨rfl, ⟨nd, rfl⟩⟩; refine ⟨_, rfl, ?_⟩; (try (rw [drewN_self w16]; generalize hq_ : World.drewN w16 _ = w16; have n0_ : Aside0 (w16.heap[gb302]? = some (.cells #[.int .i64 0, .string (⟨#[]⟩ : ByteArray), .int .i64 0, .int .i64 0] 32 (0, 0))) := ⟨by rw [← hq_]; exact (by (with_reducible repeat (first | refine blk_drewN ?_ _ | refine blk_drew ?_ | refine blk_alloc ?_ _)); exact BK302.out)⟩; have n1_ : Aside0 (Below w.heap.size w w16) := ⟨by rw [← hq_]; exact (by repeat (first | (with_reducible first | exact HB.out | apply below_alloc | apply pw_below_drewN | apply below_drew1 | refine below_set ?_ GE302.out) | exact HB.out))⟩; clear BK302 HB hq_; have BK302 := n0_; have HB := n1_; clear n0_ n1_)); have p11 : 0 ≤ (1 : Int) := (by omega); have q11 : 1 < a0.size := (by have : (1 : Int) < (a0.size : Int) := of_decide_eq_true (by first | (with_reducible assumption) | assumption); omega); have hx11 : ∀ h : 1 < a0.size, ((a0[1]'h).toNat : Int) = bt a0 1 := bt_at a0 1; clear p11; have qi11 : (1 < (a0.size : Int)) = True := eq_true (of_decide_eq_true (by first | (with_reducible assumption) | assumption)); replace q11 := eq_true q11) | (go_at_call 47; (with_reducible refine (lex_small.calls (bt a0 1) true _ A12.out).mono ?_); rintro e w' ⟨rfl, ⟨nd, rfl⟩⟩; (try (rw [drewN_self w16]; generalize hq_ : World.drewN w16 _ = w16; have n0_ : Aside0 (w16.heap[gb302]? = some (.cells #[.int .i64 0, .string (⟨#[]⟩ : ByteArray), .int .i64 0, .int .i64 0] 32 (0, 0))) := ⟨by rw [← hq_]; exact (by (with_reducible repeat (first | refine blk_drewN ?_ _ | refine blk_drew ?_ | refine blk_alloc ?_ _)); exact BK302.out)⟩; have n1_ : Aside0 (Below w.heap.size w w16) := ⟨by rw [← hq_]; exact (by repeat (first | (with_reducible first | exact HB.out | apply below_alloc | apply pw_below_drewN | apply below_drew1 | refine below_set ?_ GE302.out) | exact HB.out))⟩; clear BK302 HB hq_; have BK302 := n0_; have HB := n1_; clear n0_ n1_)); have hcz17_0 : w16.cell? ⟨gb302, 0, none⟩ = some (.int .i64 0) := (blk_cell BK302.out 0).trans rfl; have hcz17_1 : w16.cell? ⟨gb302, 1, none⟩ = some (.string (⟨#[]⟩ : ByteArray)) := (blk_cell BK302.out 1).trans rfl; have hcz17_2 : w16.cell? ⟨gb302, 2, none⟩ = some (.int .i64 0) := (blk_cell BK302.out 2).trans rfl; have hcz17_3 : w16.cell? ⟨gb302, 3, none⟩ = some (.int .i64 0) := (blk_cell BK302.out 3).trans rfl; have hfz17_0 := blk_frozen BK302.out 0; have hfz17_1 := blk_frozen BK302.out 1; have hfz17_2 := blk_frozen BK302.out 2; have hfz17_3 := blk_frozen BK302.out 3))
         refine bodyPost_ret (results_ctt rfl _ _ gb302 32 #[.int .i64 3, .string (a0.extract 1 ((wrap64 (1 + t303)) : Int).toNat), .int .i64 0, .int .i64 0] (0, 0) _ rfl (by (with_reducible repeat (first | refine blk_drewN ?_ _ | refine blk_drew ?_ | refine blk_alloc ?_ _)); refine blk_put (cs := #[.int .i64 3, .string (a0.extract 1 ((wrap64 (1 + t303)) : Int).toNat), .int .i64 0, .int .i64 0]) ?_ 3 _ rfl; (with_reducible repeat (first | refine blk_drewN ?_ _ | refine blk_drew ?_ | refine blk_alloc ?_ _)); refine blk_put (cs := #[.int .i64 3, .string (a0.extract 1 ((wrap64 (1 + t303)) : Int).toNat), .int .i64 0, .int .i64 0]) ?_ 2 _ rfl; (with_reducible repeat (first | refine blk_drewN ?_ _ | refine blk_drew ?_ | refine blk_alloc ?_ _)); refine blk_put (cs := #[.int .i64 3, .string (⟨#[]⟩ : ByteArray), .int .i64 0, .int .i64 0]) ?_ 1 _ rfl; (with_reducible repeat (first | refine blk_drewN ?_ _ | refine blk_drew ?_ | refine blk_alloc ?_ _)); refine blk_put (cs := #[.int .i64 0, .string (⟨#[]⟩ : ByteArray), .int .i64 0, .int .i64 0]) ?_ 0 _ rfl; (with_reducible repeat (first | refine blk_drewN ?_ _ | refine blk_drew ?_ | refine blk_alloc ?_ _)); exact BK302.out) Tryz.underlying32 rfl (by kernel_rfl)) rfl ?_
         exact ⟨by first | rfl | (simp [errW_none, errW_some] <;> rfl) | (simp [*, errW_none, errW_some] <;> rfl), by repeat (first | (with_reducible first | exact HB.out | apply below_alloc | apply pw_below_drewN | apply below_drew1 | refine below_set ?_ GE302.out) | exact HB.out)⟩
        ·rw [if_neg c15] at H
         exact absurd H (by simp)
       ·rw [if_neg c14] at H
        exact absurd H (by simp)
      ·replace c13 := Bool.eq_false_iff.mpr c13
       subst c13
       have H1 : (some (0, (⟨#[]⟩ : ByteArray), 0, 0, 0, false)) = some (r1, r2, r3, r4, r5, r6) := by rw [if_neg (show ¬ (false = true) by decide)] at H; exact H
       clear H
       have H := H1
       clear H1
       simp only [Option.some.injEq, Prod.mk.injEq] at H
       obtain ⟨rfl, rfl, rfl, rfl, rfl, rfl⟩ := H
       go_enter Tryz.func50, Tryz.ntmps50
       go_wp2_with (first | ((with_reducible refine gate_dst (N := 2) rfl ?_); refine box_event ?hg (N := 2) ?hd (cs := #[.int .i64 0, .string (⟨#[]⟩ : ByteArray), .int .i64 0, .int .i64 0]) (t := 32) ?hr ?_; (case hd => rfl); (case hg => rfl); (case hr => first | (go_simp; done) | (go_simp; rfl)); intro gb302 hg w18 hbox hb; have n0_ := Aside0.mk (below_step (by repeat (first | (with_reducible first | exact HB.out | apply below_alloc | apply pw_below_drewN | apply below_drew1) | exact HB.out)) hb); have n1_ := Aside0.mk (hbox); have n2_ := Aside0.mk ((by rw [hg]; exact (below_size (by repeat (first | (with_reducible first | exact HB.out | apply below_alloc | apply pw_below_drewN | apply below_drew1) | exact HB.out))) : w.heap.size ≤ gb302)); have n3_ := Aside0.mk ((by rw [hg]; exact (below_size (by repeat (first | (with_reducible first | exact HB.out | apply below_alloc | apply pw_below_drewN | apply below_drew1) | exact HB.out))) : w.heap.size ≤ gb302)); clear HB; have HB := n0_; have BK302 := n1_; have GW302 := n2_; have GE302 := n3_; clear n0_ n1_ n2_ n3_; clear hb hbox hg) | ((with_reducible refine gate_callee (f := 78) rfl ?_); refine goesL_ (some 8) rfl rfl Tryz.func78 (by kernel_rfl) rfl #[.string (a0.extract 1 a0.size), .func (.func 80) #[] #[]] rfl (by (try simp only [List.map_toArray, List.map_cons, List.map_nil]); first | done | rfl | (simp only [List.length_drop, List.length_take]; rfl)) ?_; (with_reducible refine (lex_run.calls (a0.extract 1 a0.size) 80 t303 _ A3.out).mono ?_); rintro e w' ⟨rfl, ⟨nd, rfl⟩⟩; refine ⟨_, rfl, ?_⟩; (try (rw [drewN_self w18]; generalize hq_ : World.drewN w18 _ = w18; have n0_ : Aside0 (w18.heap[gb302]? = some (.cells #[.int .i64 0, .string (⟨#[]⟩ : ByteArray), .int .i64 0, .int .i64 0] 32 (0, 0))) := ⟨by rw [← hq_]; exact (by (with_reducible repeat (first | refine blk_drewN ?_ _ | refine blk_drew ?_ | refine blk_alloc ?_ _)); exact BK302.out)⟩; have n1_ : Aside0 (Below w.heap.size w w18) := ⟨by rw [← hq_]; exact (by repeat (first | (with_reducible first | exact HB.out | apply below_alloc | apply pw_below_drewN | apply below_drew1 | refine below_set ?_ GE302.out) | exact HB.out))⟩; clear BK302 HB hq_; have BK302 := n0_; have HB := n1_; clear n0_ n1_)); have p11 : 0 ≤ (1 : Int) := (by omega); have q11 : 1 < a0.size := (by have : (1 : Int) < (a0.size : Int) := of_decide_eq_true (by first | (with_reducible assumption) | assumption); omega); have hx11 : ∀ h : 1 < a0.size, ((a0[1]'h).toNat : Int) = bt a0 1 := bt_at a0 1; clear p11; have qi11 : (1 < (a0.size : Int)) = True := eq_true (of_decide_eq_true (by first | (with_reducible assumption) | assumption)); replace q11 := eq_true q11) | (go_at_call 47; (with_reducible refine (lex_small.calls (bt a0 1) false _ A12.out).mono ?_); rintro e w' ⟨rfl, ⟨nd, rfl⟩⟩; (try (rw [drewN_self w18]; generalize hq_ : World.drewN w18 _ = w18; have n0_ : Aside0 (w18.heap[gb302]? = some (.cells #[.int .i64 0, .string (⟨#[]⟩ : ByteArray), .int .i64 0, .int .i64 0] 32 (0, 0))) := ⟨by rw [← hq_]; exact (by (with_reducible repeat (first | refine blk_drewN ?_ _ | refine blk_drew ?_ | refine blk_alloc ?_ _)); exact BK302.out)⟩; have n1_ : Aside0 (Below w.heap.size w w18) := ⟨by rw [← hq_]; exact (by repeat (first | (with_reducible first | exact HB.out | apply below_alloc | apply pw_below_drewN | apply below_drew1 | refine below_set ?_ GE302.out) | exact HB.out))⟩; clear BK302 HB hq_; have BK302 := n0_; have HB := n1_; clear n0_ n1_)); have hcz19_0 : w18.cell? ⟨gb302, 0, none⟩ = some (.int .i64 0) := (blk_cell BK302.out 0).trans rfl; have hcz19_1 : w18.cell? ⟨gb302, 1, none⟩ = some (.string (⟨#[]⟩ : ByteArray)) := (blk_cell BK302.out 1).trans rfl; have hcz19_2 : w18.cell? ⟨gb302, 2, none⟩ = some (.int .i64 0) := (blk_cell BK302.out 2).trans rfl; have hcz19_3 : w18.cell? ⟨gb302, 3, none⟩ = some (.int .i64 0) := (blk_cell BK302.out 3).trans rfl; have hfz19_0 := blk_frozen BK302.out 0; have hfz19_1 := blk_frozen BK302.out 1; have hfz19_2 := blk_frozen BK302.out 2; have hfz19_3 := blk_frozen BK302.out 3))
       refine bodyPost_ret (results_ctt rfl _ _ gb302 32 #[.int .i64 0, .string (⟨#[]⟩ : ByteArray), .int .i64 0, .int .i64 0] (0, 0) _ rfl (by (with_reducible repeat (first | refine blk_drewN ?_ _ | refine blk_drew ?_ | refine blk_alloc ?_ _)); refine blk_put (cs := #[.int .i64 0, .string (⟨#[]⟩ : ByteArray), .int .i64 0, .int .i64 0]) ?_ 3 _ rfl; (with_reducible repeat (first | refine blk_drewN ?_ _ | refine blk_drew ?_ | refine blk_alloc ?_ _)); refine blk_put (cs := #[.int .i64 0, .string (⟨#[]⟩ : ByteArray), .int .i64 0, .int .i64 0]) ?_ 2 _ rfl; (with_reducible repeat (first | refine blk_drewN ?_ _ | refine blk_drew ?_ | refine blk_alloc ?_ _)); refine blk_put (cs := #[.int .i64 0, .string (⟨#[]⟩ : ByteArray), .int .i64 0, .int .i64 0]) ?_ 1 _ rfl; (with_reducible repeat (first | refine blk_drewN ?_ _ | refine blk_drew ?_ | refine blk_alloc ?_ _)); refine blk_put (cs := #[.int .i64 0, .string (⟨#[]⟩ : ByteArray), .int .i64 0, .int .i64 0]) ?_ 0 _ rfl; (with_reducible repeat (first | refine blk_drewN ?_ _ | refine blk_drew ?_ | refine blk_alloc ?_ _)); exact BK302.out) Tryz.underlying32 rfl (by kernel_rfl)) rfl ?_
       exact ⟨by first | rfl | (simp [errW_none, errW_some] <;> rfl) | (simp [*, errW_none, errW_some] <;> rfl), by repeat (first | (with_reducible first | exact HB.out | apply below_alloc | apply pw_below_drewN | apply below_drew1 | refine below_set ?_ GE302.out) | exact HB.out)⟩
     ·rw [if_neg c10] at H
      exact absurd H (by simp)
  ·rw [if_neg c2] at H
   exact absurd H (by simp)

end Go.Proofs.YtaikpnenegifnaaGreatDoor.XL
