/- semver.Parse: what it returns, for every text. -/
import Derived.Test.YtaikpnenegifnaaGreatDoorXMx7
import Derived.Test.YtaikpnenegifnaaGreatDoorHNext
namespace Go.Proofs.YtaikpnenegifnaaGreatDoor
open Go.RowKit Go.Proofs.YtaikpnenegifnaaGreatDoorW.PrintWords Go.Proofs.YtaikpnenegifnaaGreatDoor.XM

def okPart (d : ByteArray) : Bool := decide (d.size ≤ 6) && (Lib.trimS d.data.toList [48, 49, 50, 51, 52, 53, 54, 55, 56, 57]).isEmpty
def numPart (d : ByteArray) : Int := (Lib.atoi d.data.toList).getD 0
def semver_Parse.f (s : ByteArray) : Option (Int × Int × Int × Int) :=
  if s.size < 4294967281 then
    match Lib.splitB ⟨#[46]⟩ 0 (Lib.countB s ⟨#[46]⟩) s with
    | [x, y, z] => if okPart x = true ∧ okPart y = true ∧ okPart z = true then
        (semver_Print.f (numPart x) (numPart y) (numPart z)).bind fun t => if t = s then some (numPart x, numPart y, numPart z, 0) else some (0, 0, 0, 10)
      else some (0, 0, 0, 10)
    | _ => some (0, 0, 0, 10)
  else none

theorem split3 (s x y z : ByteArray) (w : World) (hE : EnvOk w) (hs : s.size < 4294967281) (hl : Lib.splitB ⟨#[46]⟩ 0 (Lib.countB s ⟨#[46]⟩) s = [x, y, z]) :
    Calls Tryz.prog 65 #[.string s, .string ⟨#[46]⟩] w fun e w' => e = .returned (.slice (some ⟨w.heap.size, 0, none⟩) 3 3) ∧ w' = w.alloc (.cells #[.string x, .string y, .string z] 9) := by
  have hc : Lib.countB s ⟨#[46]⟩ = 2 := by
    have h := Lib.splitB_all ⟨#[46]⟩ (by decide) 0 _ s rfl
    rw [hl] at h; simp at h; omega
  have h := Tryz.strings_Split_shaped s ⟨#[46]⟩ w hE.shaped hs (by decide)
  rw [hl, hc] at h
  exact h


/-- Where Parse's memory stands: the three parts, the result's place, the array of three numbers. -/
structure PInv (w wr : World) (x y z : ByteArray) (c0 c1 c2 : Int) : Prop where
  s0 : wr.cell? ⟨w.heap.size + 1, 0, none⟩ = some (.string x)
  s1 : wr.cell? ⟨w.heap.size + 1, 1, none⟩ = some (.string y)
  s2 : wr.cell? ⟨w.heap.size + 1, 2, none⟩ = some (.string z)
  r0 : wr.cell? ⟨w.heap.size, 0, none⟩ = some (.int .i64 0)
  r1 : wr.cell? ⟨w.heap.size, 1, none⟩ = some (.int .i64 0)
  r2 : wr.cell? ⟨w.heap.size, 2, none⟩ = some (.int .i64 0)
  a0 : wr.cell? ⟨w.heap.size + 1 + 1, 0, none⟩ = some (.int .i64 c0)
  a1 : wr.cell? ⟨w.heap.size + 1 + 1, 1, none⟩ = some (.int .i64 c1)
  a2 : wr.cell? ⟨w.heap.size + 1 + 1, 2, none⟩ = some (.int .i64 c2)
  f0 : wr.frozen? ⟨w.heap.size, 0, none⟩ = false
  f1 : wr.frozen? ⟨w.heap.size, 1, none⟩ = false
  f2 : wr.frozen? ⟨w.heap.size, 2, none⟩ = false
  g0 : wr.frozen? ⟨w.heap.size + 1 + 1, 0, none⟩ = false
  g1 : wr.frozen? ⟨w.heap.size + 1 + 1, 1, none⟩ = false
  g2 : wr.frozen? ⟨w.heap.size + 1 + 1, 2, none⟩ = false
  sz : w.heap.size + 1 + 1 < wr.heap.size
  bel : Below w.heap.size w wr
  env : EnvOk w

theorem PInv.start (w : World) (x y z : ByteArray) (T U : TypeId) (hE : EnvOk w) : PInv w (((w.alloc (.cells #[.int .i64 0, .int .i64 0, .int .i64 0] T)).alloc (.cells #[.string x, .string y, .string z] 9)).alloc (.cells #[.int .i64 0, .int .i64 0, .int .i64 0] U)) x y z 0 0 0 where
  s0 := by go_simp
  s1 := by go_simp
  s2 := by go_simp
  r0 := by go_simp
  r1 := by go_simp
  r2 := by go_simp
  a0 := by go_simp
  a1 := by go_simp
  a2 := by go_simp
  f0 := by go_simp
  f1 := by go_simp
  f2 := by go_simp
  g0 := by go_simp
  g1 := by go_simp
  g2 := by go_simp
  sz := by simp
  bel := (((Below.refl _ _).alloc (Nat.le_refl _) _).alloc (by simp) _).alloc (by simp; omega) _
  env := hE

theorem PInv.step {w wr w' : World} {x y z : ByteArray} {c0 c1 c2 : Int} (h : PInv w wr x y z c0 c1 c2) (hb : Below wr.heap.size wr w') : PInv w w' x y z c0 c1 c2 := by
  obtain ⟨hc, hf⟩ := bcell hb
  have hz := h.sz
  exact ⟨(hc _ _ (by omega)).trans h.s0, (hc _ _ (by omega)).trans h.s1, (hc _ _ (by omega)).trans h.s2, (hc _ _ (by omega)).trans h.r0, (hc _ _ (by omega)).trans h.r1, (hc _ _ (by omega)).trans h.r2, (hc _ _ (by omega)).trans h.a0, (hc _ _ (by omega)).trans h.a1, (hc _ _ (by omega)).trans h.a2,
    (hf _ _ (by omega)).trans h.f0, (hf _ _ (by omega)).trans h.f1, (hf _ _ (by omega)).trans h.f2, (hf _ _ (by omega)).trans h.g0, (hf _ _ (by omega)).trans h.g1, (hf _ _ (by omega)).trans h.g2, Nat.lt_of_lt_of_le hz hb.size, h.bel.trans (hb.mono (by omega)), h.env⟩

theorem PInv.set0 {w wr : World} {x y z : ByteArray} {c0 c1 c2 : Int} (h : PInv w wr x y z c0 c1 c2) (n : Int) : PInv w (wr.setCell ⟨w.heap.size + 1 + 1, 0, none⟩ (.int .i64 n)) x y z n c1 c2 := by
  obtain ⟨s0, s1, s2, r0, r1, r2, a0, a1, a2, f0, f1, f2, g0, g1, g2, sz, bel, env⟩ := h
  have hb : Below w.heap.size w (wr.setCell ⟨w.heap.size + 1 + 1, 0, none⟩ (.int .i64 n)) := bel.setCell (by show w.heap.size ≤ w.heap.size + 1 + 1; omega) _
  refine ⟨?_, ?_, ?_, ?_, ?_, ?_, ?_, ?_, ?_, ?_, ?_, ?_, ?_, ?_, ?_, by simpa using sz, hb, env⟩ <;> go_simp

theorem PInv.set1 {w wr : World} {x y z : ByteArray} {c0 c1 c2 : Int} (h : PInv w wr x y z c0 c1 c2) (n : Int) : PInv w (wr.setCell ⟨w.heap.size + 1 + 1, 1, none⟩ (.int .i64 n)) x y z c0 n c2 := by
  obtain ⟨s0, s1, s2, r0, r1, r2, a0, a1, a2, f0, f1, f2, g0, g1, g2, sz, bel, env⟩ := h
  have hb : Below w.heap.size w (wr.setCell ⟨w.heap.size + 1 + 1, 1, none⟩ (.int .i64 n)) := bel.setCell (by show w.heap.size ≤ w.heap.size + 1 + 1; omega) _
  refine ⟨?_, ?_, ?_, ?_, ?_, ?_, ?_, ?_, ?_, ?_, ?_, ?_, ?_, ?_, ?_, by simpa using sz, hb, env⟩ <;> go_simp

theorem PInv.set2 {w wr : World} {x y z : ByteArray} {c0 c1 c2 : Int} (h : PInv w wr x y z c0 c1 c2) (n : Int) : PInv w (wr.setCell ⟨w.heap.size + 1 + 1, 2, none⟩ (.int .i64 n)) x y z c0 c1 n := by
  obtain ⟨s0, s1, s2, r0, r1, r2, a0, a1, a2, f0, f1, f2, g0, g1, g2, sz, bel, env⟩ := h
  have hb : Below w.heap.size w (wr.setCell ⟨w.heap.size + 1 + 1, 2, none⟩ (.int .i64 n)) := bel.setCell (by show w.heap.size ≤ w.heap.size + 1 + 1; omega) _
  refine ⟨?_, ?_, ?_, ?_, ?_, ?_, ?_, ?_, ?_, ?_, ?_, ?_, ?_, ?_, ?_, by simpa using sz, hb, env⟩ <;> go_simp

theorem toList_inj {t s : ByteArray} (h : t.toList = s.toList) : t = s := by
  rw [ByteArray.toList_eq, ByteArray.toList_eq] at h
  obtain ⟨⟨a⟩⟩ := t
  obtain ⟨⟨b⟩⟩ := s
  simpa using h
theorem box_cells {wr w1 : World} {a b c : Value} {T : TypeId} (hb : Below (wr.alloc (.cells #[a, b, c] T)).heap.size (wr.alloc (.cells #[a, b, c] T)) w1) :
    w1.cell? ⟨wr.heap.size, 0, none⟩ = some a ∧ w1.cell? ⟨wr.heap.size, 1, none⟩ = some b ∧ w1.cell? ⟨wr.heap.size, 2, none⟩ = some c ∧ Below wr.heap.size wr w1 := by
  obtain ⟨hc, hf⟩ := bcell hb
  refine ⟨(hc _ _ (by simp)).trans (by go_simp), (hc _ _ (by simp)).trans (by go_simp), (hc _ _ (by simp)).trans (by go_simp), ((Below.refl _ _).alloc (Nat.le_refl _) _).trans (hb.mono (by simp))⟩
theorem okPart_trim {d : ByteArray} (h : okPart d = true) : d.size ≤ 6 ∧ strings_Trim.f d ⟨#[48, 49, 50, 51, 52, 53, 54, 55, 56, 57]⟩ = some ⟨#[]⟩ := by
  unfold okPart at h
  simp only [Bool.and_eq_true, decide_eq_true_eq, List.isEmpty_iff] at h
  refine ⟨h.1, ?_⟩
  unfold strings_Trim.f
  have hz := h.1
  rw [if_pos ⟨by omega, by decide, by decide⟩]
  show some (⟨(Lib.trimS d.data.toList [48, 49, 50, 51, 52, 53, 54, 55, 56, 57]).toArray⟩ : ByteArray) = _
  rw [h.2]
theorem not_okPart {d : ByteArray} (h : ¬ okPart d = true) (h6 : d.size ≤ 6) : ∃ t : ByteArray, strings_Trim.f d ⟨#[48, 49, 50, 51, 52, 53, 54, 55, 56, 57]⟩ = some t ∧ t.toList.isEmpty = false := by
  unfold okPart at h
  refine ⟨⟨(Lib.trimS d.data.toList [48, 49, 50, 51, 52, 53, 54, 55, 56, 57]).toArray⟩, ?_, ?_⟩
  · unfold strings_Trim.f
    rw [if_pos ⟨by omega, by decide, by decide⟩]
  · simp [h6] at h
    simpa [ByteArray.toList_eq] using h

set_option maxHeartbeats 4000000 in
theorem parse_three (s x y z : ByteArray) (r1 r2 r3 r4 : Int) (w : World) (hE : EnvOk w) (hs : s.size < 4294967281) (hl : Lib.splitB ⟨#[46]⟩ 0 (Lib.countB s ⟨#[46]⟩) s = [x, y, z])
    (h : (if okPart x = true ∧ okPart y = true ∧ okPart z = true then (semver_Print.f (numPart x) (numPart y) (numPart z)).bind fun t => if t = s then some (numPart x, numPart y, numPart z, 0) else some (0, 0, 0, 10) else some (0, 0, 0, 10)) = some (r1, r2, r3, r4)) :
    Calls Tryz.prog 34 #[.string s] w fun e w' => e = .returned (.tuple #[.agg #[.int .i64 r1, .int .i64 r2, .int .i64 r3], .int .i64 r4]) ∧ Below w.heap.size w w' := by
  have HL := Lib.hid hl
  have HH := Lib.hid h
  clear hl h
  go_enter Tryz.func34, Tryz.ntmps34
  go_wp2_with (go_at_call 65; refine (split3 s x y z _ (hE.below ((Below.refl _ _).alloc (Nat.le_refl _) _)) hs HL.out).mono ?_; rintro e w1 ⟨rfl, rfl⟩)
  go_loopw [17] (fun i wr => ∃ k : Nat, k ≤ 3 ∧ i = .int .i64 k ∧ (0 < k → okPart x = true) ∧ (1 < k → okPart y = true) ∧ (2 < k → okPart z = true) ∧ PInv w wr x y z (if 0 < k then numPart x else 0) (if 1 < k then numPart y else 0) (if 2 < k then numPart z else 0)) (fun i _ => 3 - (intOf i).toNat)
  case atStart => exact ⟨0, by omega, rfl, by omega, by omega, by omega, PInv.start w x y z _ _ hE⟩
  case round =>
    obtain ⟨k, hk, rfl, ox, oy, oz, hp⟩ := hrel
    have HP := Aside0.mk hp
    obtain ⟨s0, s1, s2, e0, e1, e2, a0, a1, a2, f0, f1, f2, g0, g1, g2, sz, _, _⟩ := hp
    have hk4 : k = 0 ∨ k = 1 ∨ k = 2 ∨ k = 3 := by omega
    clear hk
    rcases hk4 with rfl | rfl | rfl | rfl
    · clear ox oy oz
      by_cases ho : okPart x = true
      · obtain ⟨h6, ht⟩ := okPart_trim ho
        have HT := Aside0.mk ht
        have HO := Aside0.mk ho
        clear ht ho
        have b6 : decide ((6 : Int) < (x.size : Int)) = false := decide_eq_false (by omega)
        have b7 : decide (6 < x.size) = false := decide_eq_false (by omega)
        go_wp2_with (first | (go_at_call 66; refine (strings_Trim.calls x _ _ _ HT.out).mono ?_; rintro e w1 ⟨rfl, hb1⟩; have HQ := Aside0.mk (HP.out.step hb1); obtain ⟨s0', s1', s2', e0', e1', e2', a0', a1', a2', f0', f1', f2', g0', g1', g2', sz', _, _⟩ := HQ.out) | (go_at_call 67; refine (strconv_Atoi.calls x _ (hE.below HQ.out.bel) (by omega)).mono ?_; rintro e w2 ⟨ev, rfl, hb2⟩; have HR := Aside0.mk (HQ.out.step hb2); obtain ⟨s0'', s1'', s2'', e0'', e1'', e2'', a0'', a1'', a2'', f0'', f1'', f2'', g0'', g1'', g2'', sz'', _, _⟩ := HR.out))
        exact ⟨⟨1, by omega, rfl, fun _ => HO.out, by omega, by omega, by simpa [numPart] using HR.out.set0 ((Lib.atoi x.data.toList).getD 0)⟩, by simp [intOf]⟩
      · obtain ⟨rfl, rfl, rfl, rfl⟩ : r1 = 0 ∧ r2 = 0 ∧ r3 = 0 ∧ r4 = 10 := by
          have hr := HH.out
          rw [if_neg (fun hh => ho hh.1)] at hr
          simp only [Option.some.injEq, Prod.mk.injEq] at hr
          obtain ⟨rfl, rfl, rfl, rfl⟩ := hr
          exact ⟨rfl, rfl, rfl, rfl⟩
        by_cases h6 : x.size ≤ 6
        · obtain ⟨t, ht, hne⟩ := not_okPart ho h6
          have HT := Aside0.mk ht
          clear ht ho
          have b6 : decide ((6 : Int) < (x.size : Int)) = false := decide_eq_false (by omega)
          have b7 : decide (6 < x.size) = false := decide_eq_false (by omega)
          go_wp2_with (go_at_call 66; refine (strings_Trim.calls x _ _ _ HT.out).mono ?_; rintro e w1 ⟨rfl, hb1⟩; have HQ := Aside0.mk (HP.out.step hb1); obtain ⟨s0', s1', s2', e0', e1', e2', a0', a1', a2', f0', f1', f2', g0', g1', g2', sz', _, _⟩ := HQ.out)
          refine bodyPost_ret (v := .tuple #[.agg #[.int .i64 0, .int .i64 0, .int .i64 0], .int .i64 10]) (by simp [results, Tryz.results34, go_sem, e0', e1', e2']) rfl ⟨rfl, ?_⟩
          repeat (first | refine Below.setCell ?_ (by simp) _)
          exact HQ.out.bel
        · have b6 : decide ((6 : Int) < (x.size : Int)) = true := decide_eq_true (by omega)
          have b7 : decide (6 < x.size) = true := decide_eq_true (by omega)
          clear ho
          go_wp2
          refine bodyPost_ret (v := .tuple #[.agg #[.int .i64 0, .int .i64 0, .int .i64 0], .int .i64 10]) (by simp [results, Tryz.results34, go_sem, e0, e1, e2]) rfl ⟨rfl, ?_⟩
          repeat (first | refine Below.setCell ?_ (by simp) _)
          exact HP.out.bel
    · have ox1 := Aside0.mk (ox (by omega))
      clear ox oy oz
      by_cases ho : okPart y = true
      · obtain ⟨h6, ht⟩ := okPart_trim ho
        have HT := Aside0.mk ht
        have HO := Aside0.mk ho
        clear ht ho
        have b6 : decide ((6 : Int) < (y.size : Int)) = false := decide_eq_false (by omega)
        have b7 : decide (6 < y.size) = false := decide_eq_false (by omega)
        go_wp2_with (first | (go_at_call 66; refine (strings_Trim.calls y _ _ _ HT.out).mono ?_; rintro e w1 ⟨rfl, hb1⟩; have HQ := Aside0.mk (HP.out.step hb1); obtain ⟨s0', s1', s2', e0', e1', e2', a0', a1', a2', f0', f1', f2', g0', g1', g2', sz', _, _⟩ := HQ.out) | (go_at_call 67; refine (strconv_Atoi.calls y _ (hE.below HQ.out.bel) (by omega)).mono ?_; rintro e w2 ⟨ev, rfl, hb2⟩; have HR := Aside0.mk (HQ.out.step hb2); obtain ⟨s0'', s1'', s2'', e0'', e1'', e2'', a0'', a1'', a2'', f0'', f1'', f2'', g0'', g1'', g2'', sz'', _, _⟩ := HR.out))
        exact ⟨⟨2, by omega, rfl, fun _ => ox1.out, fun _ => HO.out, by omega, by simpa [numPart] using HR.out.set1 ((Lib.atoi y.data.toList).getD 0)⟩, by simp [intOf]⟩
      · obtain ⟨rfl, rfl, rfl, rfl⟩ : r1 = 0 ∧ r2 = 0 ∧ r3 = 0 ∧ r4 = 10 := by
          have hr := HH.out
          rw [if_neg (fun hh => ho hh.2.1)] at hr
          simp only [Option.some.injEq, Prod.mk.injEq] at hr
          obtain ⟨rfl, rfl, rfl, rfl⟩ := hr
          exact ⟨rfl, rfl, rfl, rfl⟩
        by_cases h6 : y.size ≤ 6
        · obtain ⟨t, ht, hne⟩ := not_okPart ho h6
          have HT := Aside0.mk ht
          clear ht ho
          have b6 : decide ((6 : Int) < (y.size : Int)) = false := decide_eq_false (by omega)
          have b7 : decide (6 < y.size) = false := decide_eq_false (by omega)
          go_wp2_with (go_at_call 66; refine (strings_Trim.calls y _ _ _ HT.out).mono ?_; rintro e w1 ⟨rfl, hb1⟩; have HQ := Aside0.mk (HP.out.step hb1); obtain ⟨s0', s1', s2', e0', e1', e2', a0', a1', a2', f0', f1', f2', g0', g1', g2', sz', _, _⟩ := HQ.out)
          refine bodyPost_ret (v := .tuple #[.agg #[.int .i64 0, .int .i64 0, .int .i64 0], .int .i64 10]) (by simp [results, Tryz.results34, go_sem, e0', e1', e2']) rfl ⟨rfl, ?_⟩
          repeat (first | refine Below.setCell ?_ (by simp) _)
          exact HQ.out.bel
        · have b6 : decide ((6 : Int) < (y.size : Int)) = true := decide_eq_true (by omega)
          have b7 : decide (6 < y.size) = true := decide_eq_true (by omega)
          clear ho
          go_wp2
          refine bodyPost_ret (v := .tuple #[.agg #[.int .i64 0, .int .i64 0, .int .i64 0], .int .i64 10]) (by simp [results, Tryz.results34, go_sem, e0, e1, e2]) rfl ⟨rfl, ?_⟩
          repeat (first | refine Below.setCell ?_ (by simp) _)
          exact HP.out.bel
    · have ox1 := Aside0.mk (ox (by omega))
      have oy1 := Aside0.mk (oy (by omega))
      clear ox oy oz
      by_cases ho : okPart z = true
      · obtain ⟨h6, ht⟩ := okPart_trim ho
        have HT := Aside0.mk ht
        have HO := Aside0.mk ho
        clear ht ho
        have b6 : decide ((6 : Int) < (z.size : Int)) = false := decide_eq_false (by omega)
        have b7 : decide (6 < z.size) = false := decide_eq_false (by omega)
        go_wp2_with (first | (go_at_call 66; refine (strings_Trim.calls z _ _ _ HT.out).mono ?_; rintro e w1 ⟨rfl, hb1⟩; have HQ := Aside0.mk (HP.out.step hb1); obtain ⟨s0', s1', s2', e0', e1', e2', a0', a1', a2', f0', f1', f2', g0', g1', g2', sz', _, _⟩ := HQ.out) | (go_at_call 67; refine (strconv_Atoi.calls z _ (hE.below HQ.out.bel) (by omega)).mono ?_; rintro e w2 ⟨ev, rfl, hb2⟩; have HR := Aside0.mk (HQ.out.step hb2); obtain ⟨s0'', s1'', s2'', e0'', e1'', e2'', a0'', a1'', a2'', f0'', f1'', f2'', g0'', g1'', g2'', sz'', _, _⟩ := HR.out))
        exact ⟨⟨3, by omega, rfl, fun _ => ox1.out, fun _ => oy1.out, fun _ => HO.out, by simpa [numPart] using HR.out.set2 ((Lib.atoi z.data.toList).getD 0)⟩, by simp [intOf]⟩
      · obtain ⟨rfl, rfl, rfl, rfl⟩ : r1 = 0 ∧ r2 = 0 ∧ r3 = 0 ∧ r4 = 10 := by
          have hr := HH.out
          rw [if_neg (fun hh => ho hh.2.2)] at hr
          simp only [Option.some.injEq, Prod.mk.injEq] at hr
          obtain ⟨rfl, rfl, rfl, rfl⟩ := hr
          exact ⟨rfl, rfl, rfl, rfl⟩
        by_cases h6 : z.size ≤ 6
        · obtain ⟨t, ht, hne⟩ := not_okPart ho h6
          have HT := Aside0.mk ht
          clear ht ho
          have b6 : decide ((6 : Int) < (z.size : Int)) = false := decide_eq_false (by omega)
          have b7 : decide (6 < z.size) = false := decide_eq_false (by omega)
          go_wp2_with (go_at_call 66; refine (strings_Trim.calls z _ _ _ HT.out).mono ?_; rintro e w1 ⟨rfl, hb1⟩; have HQ := Aside0.mk (HP.out.step hb1); obtain ⟨s0', s1', s2', e0', e1', e2', a0', a1', a2', f0', f1', f2', g0', g1', g2', sz', _, _⟩ := HQ.out)
          refine bodyPost_ret (v := .tuple #[.agg #[.int .i64 0, .int .i64 0, .int .i64 0], .int .i64 10]) (by simp [results, Tryz.results34, go_sem, e0', e1', e2']) rfl ⟨rfl, ?_⟩
          repeat (first | refine Below.setCell ?_ (by simp) _)
          exact HQ.out.bel
        · have b6 : decide ((6 : Int) < (z.size : Int)) = true := decide_eq_true (by omega)
          have b7 : decide (6 < z.size) = true := decide_eq_true (by omega)
          clear ho
          go_wp2
          refine bodyPost_ret (v := .tuple #[.agg #[.int .i64 0, .int .i64 0, .int .i64 0], .int .i64 10]) (by simp [results, Tryz.results34, go_sem, e0, e1, e2]) rfl ⟨rfl, ?_⟩
          repeat (first | refine Below.setCell ?_ (by simp) _)
          exact HP.out.bel
    · have hr := HH.out
      rw [if_pos ⟨ox (by omega), oy (by omega), oz (by omega)⟩] at hr
      clear ox oy oz
      obtain ⟨t, ht, hr⟩ := Option.bind_eq_some_iff.mp hr
      have HT := Aside0.mk ht
      clear ht
      by_cases hts : t = s
      · subst hts
        rw [if_pos rfl] at hr
        simp only [Option.some.injEq, Prod.mk.injEq] at hr
        obtain ⟨rfl, rfl, rfl, rfl⟩ := hr
        go_wp2_with (go_at_call 68; refine (semver_Print.calls _ _ _ t _ (hE.below (HP.out.bel.alloc (Nat.le_of_lt (Nat.lt_trans (by omega) HP.out.sz)) _)) HT.out).mono ?_; rintro e w1 ⟨rfl, hb1⟩; obtain ⟨v0, v1, v2, hb2⟩ := box_cells hb1; have HQ := Aside0.mk (HP.out.step hb2); obtain ⟨s0', s1', s2', e0', e1', e2', a0', a1', a2', f0', f1', f2', g0', g1', g2', sz', _, _⟩ := HQ.out)
        refine bodyPost_ret (v := .tuple #[.agg #[.int .i64 (numPart x), .int .i64 (numPart y), .int .i64 (numPart z)], .int .i64 0]) (by simp [results, Tryz.results34, go_sem, e0', e1', e2']) rfl ⟨rfl, ?_⟩
        repeat (first | refine Below.setCell ?_ (by simp) _)
        exact HQ.out.bel
      · rw [if_neg hts] at hr
        simp only [Option.some.injEq, Prod.mk.injEq] at hr
        obtain ⟨rfl, rfl, rfl, rfl⟩ := hr
        have ht1 : (t.toList == s.toList) = false := beq_eq_false_iff_ne.2 fun h => hts (toList_inj h)
        have ht2 : (t.toList != s.toList) = true := by simpa using ht1
        clear hts
        go_wp2_with (go_at_call 68; refine (semver_Print.calls _ _ _ t _ (hE.below (HP.out.bel.alloc (Nat.le_of_lt (Nat.lt_trans (by omega) HP.out.sz)) _)) HT.out).mono ?_; rintro e w1 ⟨rfl, hb1⟩; obtain ⟨v0, v1, v2, hb2⟩ := box_cells hb1; have HQ := Aside0.mk (HP.out.step hb2); obtain ⟨s0', s1', s2', e0', e1', e2', a0', a1', a2', f0', f1', f2', g0', g1', g2', sz', _, _⟩ := HQ.out)
        refine bodyPost_ret (v := .tuple #[.agg #[.int .i64 0, .int .i64 0, .int .i64 0], .int .i64 10]) (by simp [results, Tryz.results34, go_sem, e0', e1', e2']) rfl ⟨rfl, ?_⟩
        repeat (first | refine Below.setCell ?_ (by simp) _)
        exact HQ.out.bel

set_option maxHeartbeats 1000000 in
theorem parse_other (s : ByteArray) (w : World) (hE : EnvOk w) (hs : s.size < 4294967281) (hc : Lib.countB s ⟨#[46]⟩ ≠ 2) :
    Calls Tryz.prog 34 #[.string s] w fun e w' => e = .returned (.tuple #[.agg #[.int .i64 0, .int .i64 0, .int .i64 0], .int .i64 10]) ∧ Below w.heap.size w w' := by
  have hS := fun w' hE' => Tryz.strings_Split_shaped s ⟨#[46]⟩ w' (hE' : EnvOk w').shaped hs (by decide)
  generalize hn : Lib.countB s ⟨#[46]⟩ = n at hS hc
  generalize (List.map Value.string (Lib.splitB ⟨#[46]⟩ 0 n s)).toArray = cs at hS
  have hnlt : n ≤ s.size := by rw [← hn]; exact Lib.countB_le ⟨#[46]⟩ (by decide) s.size s (Nat.le_refl _)
  have HS := Aside0.mk hS
  clear hS hn
  have b1 : (((n + 1 : Nat) : Int) == 3) = false := beq_eq_false_iff_ne.2 (by omega)
  have b2 : (((n + 1 : Nat) : Int) != 3) = true := by rw [bne_iff_ne]; omega
  have b3 : (((n : Int) + 1) == 3) = false := beq_eq_false_iff_ne.2 (by omega)
  have b4 : (((n : Int) + 1) != 3) = true := by rw [bne_iff_ne]; omega
  have b5 : ((n : Int) == 2) = false := beq_eq_false_iff_ne.2 (by omega)
  clear hc
  go_enter Tryz.func34, Tryz.ntmps34
  go_wp2_with (go_at_call 65; refine (HS.out _ (hE.below ((Below.refl _ _).alloc (Nat.le_refl _) _))).mono ?_; rintro e w1 ⟨rfl, rfl⟩)
  refine bodyPost_ret (v := .tuple #[.agg #[.int .i64 0, .int .i64 0, .int .i64 0], .int .i64 10]) (by simp [results, Tryz.results34, go_sem]) rfl ⟨rfl, ?_⟩
  repeat (first | refine Below.setCell ?_ (by simp) _)
  exact ((Below.refl _ _).alloc (Nat.le_refl _) _).alloc (by simp) _

theorem semver_Parse.calls (a0 : ByteArray) (r1 r2 r3 r4 : Int) (w : World) (hE : EnvOk w) (h : semver_Parse.f a0 = some (r1, r2, r3, r4)) :
    Calls Tryz.prog 34 #[.string a0] w fun e w' => e = .returned (.tuple #[.agg #[.int .i64 r1, .int .i64 r2, .int .i64 r3], .int .i64 r4]) ∧ Below w.heap.size w w' := by
  unfold semver_Parse.f at h
  split at h
  · rename_i hs
    split at h
    · rename_i x y z hl
      exact parse_three a0 x y z r1 r2 r3 r4 w hE hs hl h
    · rename_i hn
      simp only [Option.some.injEq, Prod.mk.injEq] at h
      obtain ⟨rfl, rfl, rfl, rfl⟩ := h
      refine parse_other a0 w hE hs fun hc => ?_
      have hlen := Lib.splitB_all ⟨#[46]⟩ (by decide) 0 _ a0 rfl
      rw [hc] at hlen hn
      match hl : Lib.splitB ⟨#[46]⟩ 0 2 a0, hlen with
      | [x, y, z], _ => exact hn x y z hl
  · cases h
end Go.Proofs.YtaikpnenegifnaaGreatDoor
