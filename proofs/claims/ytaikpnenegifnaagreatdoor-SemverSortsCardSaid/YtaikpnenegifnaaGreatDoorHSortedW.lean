/- semver.Sorted: what it returns, for every list of at most 1000 versions: each version once, in order. -/
import Derived.Test.YtaikpnenegifnaaGreatDoorHMapV
import Derived.Test.YtaikpnenegifnaaGreatDoorHCmp
import Derived.Test.YtaikpnenegifnaaGreatDoorPureCmpK
import Derived.Maps.AppendAt
import Derived.WalkKit
namespace Go.Proofs.YtaikpnenegifnaaGreatDoor
set_option linter.unusedSimpArgs false
set_option linter.unusedVariables false
open Go.RowKit Go.Maps Go.Proofs.YtaikpnenegifnaaGreatDoorW.PrintWords Go.Proofs.YtaikpnenegifnaaGreatDoor.XM

def dstep (o : List S44) (x : S44) : List S44 := if x ∈ o then o else o ++ [x]
def ddp (l : List S44) : List S44 := l.foldl dstep []
theorem ddp_take (l : List S44) (k : Nat) (hk : k < l.length) : ddp (l.take (k + 1)) = dstep (ddp (l.take k)) (rd_T44 l k) := by
  unfold ddp rd_T44
  rw [List.take_add_one, List.getElem?_eq_getElem hk, Option.toList_some, List.foldl_append, Int.toNat_natCast, List.getD_eq_getElem?_getD, List.getElem?_eq_getElem hk]
  rfl
theorem dstep_len (o : List S44) (x : S44) : (dstep o x).length ≤ o.length + 1 := by
  unfold dstep; split <;> simp
theorem foldl_len : ∀ (l o : List S44), (l.foldl dstep o).length ≤ o.length + l.length
  | [], o => by simp
  | x :: l, o => by
    have h1 := foldl_len l (dstep o x)
    have h2 := dstep_len o x
    simp only [List.foldl_cons, List.length_cons]
    omega
theorem ddp_len (l : List S44) : (ddp l).length ≤ l.length := by
  have := foldl_len l []
  unfold ddp
  simpa using this
theorem flat_len (l : List S44) : (l.flatMap vCells).length = l.length * 3 := by
  induction l with
  | nil => rfl
  | cons x l ih => simp only [List.flatMap_cons, List.length_append, ih, List.length_cons, vCells, List.length_nil]; omega

theorem vinfo : (Tryz.prog.info? 44).map (fun i => (i.zero, i.size, i.bytes)) = some (some (.agg #[(.int .i64 0), (.int .i64 0), (.int .i64 0)]), 3, 24) := by kernel_rfl

theorem row_ne' {w : World} {base : Nat} {e : TypeId} {size : Nat} {v : Value} {n : Nat} {xs : List Value} (h : w.ownsRow base e size v n xs) {b : Nat} (hb : b < base) : some b ≠ v.ownBlock := fun e1 => by
  have := (h.lt b e1.symm).1
  omega
def SortRel (l : List S44) (w : World) (v i : Value) (wr : World) : Prop :=
  ∃ k : Nat, k ≤ l.length ∧ i = .int .i64 k ∧ MapIs wr w.heap.size (ddp (l.take k)) ∧ wr.ownsRow (w.heap.size + 1) 44 3 v (ddp (l.take k)).length ((ddp (l.take k)).flatMap vCells) ∧ Below w.heap.size w wr ∧ w.heap.size + 1 ≤ wr.heap.size

set_option maxHeartbeats 4000000 in
set_option maxRecDepth 100000 in
theorem sorted_walk (A : Option Addr) (c : Nat) (l : List S44) (w : World) (hr : Kd.C k44 w A l.length l) (hc : l.length ≤ c) (hl : l.length ≤ 1000)
    (Post : Ending → World → Prop)
    (hend : ∀ v wr, wr.ownsRow (w.heap.size + 1) 44 3 v (ddp l).length ((ddp l).flatMap vCells) → Below w.heap.size w wr →
      Calls Tryz.prog 39 #[v, .func (.func 37) #[] #[]] wr fun e w' => e = .returned (.tuple #[]) ∧ Post (.returned v) w') :
    Calls Tryz.prog 26 #[.slice A l.length c] w Post := by
  have hmm := @run_makeMap Tryz.prog
  obtain ⟨i0, hi, hz0, hz1, hz2⟩ := info_parts vinfo
  have HR := Aside0.mk hr
  have HE := Aside0.mk hend
  clear hr hend
  go_enter Tryz.func26, Tryz.ntmps26
  go_wp2
  go_loopw [4, 10] (fun v i wr => SortRel l w v i wr) (fun _ i _ => l.length - (intOf i).toNat)
  case atStart => exact ⟨0, Nat.zero_le _, rfl, ⟨#[], 0, (MapKept.heap_alloc w _).1, by simp [ddp]⟩, by simpa [ddp] using World.ownsRow_nil _ _ _ _, (Below.refl _ _).alloc (Nat.le_refl _) _, by simp⟩
  case round =>
    obtain ⟨k, hk, rfl, hmap, hrow, hB, hsz⟩ := hrel
    by_cases hlt : k < l.length
    · have p1 : (0 : Int) ≤ (k : Int) := by omega
      have p2 : (k : Int) < (l.length : Int) := by omega
      obtain ⟨ad, e1, x0, x1, x2⟩ := at_T44 (Kd.C_below HR.out hB) (k : Int) p1 p2
      subst e1
      simp only [Int.toNat_natCast] at x0 x1 x2
      have hd := ddp_take l k hlt
      have hlen := ddp_len (l.take k)
      have hlen2 : (l.take k).length ≤ k := by simp; omega
      generalize ddp (l.take k) = D at *
      generalize rd_T44 l k = X at *
      have q1 := eq_true p1
      have q2 := eq_true p2
      go_wp2_with (first
        | (at_lookup; refine wp_look_v rfl _ _ rfl w.heap.size D rfl (hmap.alloc _) X rfl ?_)
        | (at_mapUpdate; refine wp_store_v rfl _ _ _ rfl w.heap.size D rfl (hmap.alloc _) X rfl rfl (by simpa using (show (!decide (X ∈ D)) = true by assumption)) ?_; intro w1 hmap1 hgrow1; obtain ⟨y0, y1, y2⟩ := new_cells hgrow1 hmap.lt)
        | (at_builtin; refine wpList_append_own _ rfl _ _ 42 rfl (w.heap.size + 1) 44 i0 (.agg #[(.int .i64 0), (.int .i64 0), (.int .i64 0)]) 3 24 Tryz.underlying42 hi hz0 hz1 hz2 rfl (by decide) _ _ _ rfl (((hrow.alloc _).kept hgrow1 (Or.inr (row_ne' hrow (Nat.lt_succ_self _)).symm)).alloc _) ⟨w1.heap.size, 0, none⟩ 1 1 (vCells X) rfl rfl (cell_three_new _ _ _ _ _) (by intro u hu; simp [vCells] at hu; rcases hu with rfl | rfl | rfl <;> rfl) (by unfold maxLen; omega) (by omega) (by have := hgrow1.size; simp at this ⊢; omega) ?_; intro v' w2 hown' hgrow2 hnil2)
        | go_in)
      · have hx : X ∉ D := by simpa using (show (!decide (X ∈ D)) = true by assumption)
        have e : ddp (l.take (k + 1)) = D ++ [X] := by rw [hd]; simp [dstep, hx]
        have s1 := hgrow1.size
        have s2 := hgrow2.size
        simp at s1 s2
        have hr1 := (hrow.alloc (.cells #[.int .i64 X.f0, .int .i64 X.f1, .int .i64 X.f2] 44)).kept hgrow1 (Or.inr (row_ne' hrow (Nat.lt_succ_self _)).symm)
        refine ⟨⟨k + 1, by omega, by simp, ?_, ?_, ?_, by omega⟩, by simp [intOf]; omega⟩
        · rw [e]
          exact (hmap1.alloc _).kept (hgrow2.block _ (hmap1.alloc _).lt (row_ne' hr1 (Nat.lt_succ_self _)))
        · rw [e]
          simpa using hown'
        · exact (((hB.alloc hB.size _).grown hgrow1 (by simp; omega) (fun j hj => by cases hj; exact Nat.le_refl _)).alloc (by omega) _).grown hgrow2 (by simp; omega) (fun j hj => Nat.le_trans (Nat.le_succ _) (hr1.lt j hj).1)
      · have hx : X ∈ D := by simpa using (show (!decide (X ∈ D)) = false by assumption)
        have e : ddp (l.take (k + 1)) = D := by rw [hd]; simp [dstep, hx]
        refine ⟨⟨k + 1, by omega, by simp, ?_, ?_, hB.alloc hB.size _, by simp; omega⟩, by simp [intOf]; omega⟩
        · rw [e]
          exact hmap.alloc _
        · rw [e]
          exact hrow.alloc _
    · have hk' : k = l.length := by omega
      subst hk'
      rw [List.take_length] at hrow
      have hcall := HE.out _ _ hrow hB
      go_wp2_with (go_at_call 39; refine hcall.mono ?_; rintro e w' ⟨rfl, hp⟩)
      exact hp

/-- The order of versions as a test. -/
def vlt (x y : S44) : Bool := decide (vcmp x.f0 x.f1 x.f2 y.f0 y.f1 y.f2 < 0)
def semver_Sorted.f (l : List S44) : Option (List S44) := if l.length ≤ 1000 then some ((ddp l).mergeSort fun x y => !vlt y x) else none
end Go.Proofs.YtaikpnenegifnaaGreatDoor
