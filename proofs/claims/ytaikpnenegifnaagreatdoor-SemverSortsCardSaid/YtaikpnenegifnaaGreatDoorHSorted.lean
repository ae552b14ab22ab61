/- semver.Sorted: the sort behind the walk, and the contract: what it returns, for every list of at most 1000 versions. -/
import Derived.Test.YtaikpnenegifnaaGreatDoorHSortedW
import Derived.Test.YtaikpnenegifnaaGreatDoorShelf2
import Derived.Sort.OwnSorted
namespace Go.Proofs.YtaikpnenegifnaaGreatDoor
set_option linter.unusedSimpArgs false
set_option linter.unusedVariables false
open Go.RowKit Go.Sort Go.Proofs Go.Shelf Go.Proofs.YtaikpnenegifnaaGreatDoorW.PrintWords Go.Proofs.YtaikpnenegifnaaGreatDoor.XM

instance : Inhabited S44 := ⟨⟨0, 0, 0⟩⟩
def vcf (x y : S44) : Int := vcmp x.f0 x.f1 x.f2 y.f0 y.f1 y.f2
theorem vlt_iff (x y : S44) : vlt x y = true ↔ (x.f0 < y.f0 ∨ x.f0 = y.f0 ∧ (x.f1 < y.f1 ∨ x.f1 = y.f1 ∧ x.f2 < y.f2)) := by
  unfold vlt
  rw [decide_eq_true_eq, vcmp_lt]
theorem vlt_false (x y : S44) : vlt x y = false ↔ ¬ (x.f0 < y.f0 ∨ x.f0 = y.f0 ∧ (x.f1 < y.f1 ∨ x.f1 = y.f1 ∧ x.f2 < y.f2)) := by
  rw [← vlt_iff, Bool.not_eq_true]
theorem vlt_swo : SWO vlt where
  irrefl x := by rw [vlt_false]; omega
  trans x y z h1 h2 := by rw [vlt_iff] at *; omega
  ntrans x y z h1 h2 := by rw [vlt_false] at *; omega
theorem vlt_total (x y : S44) (h1 : vlt x y = false) (h2 : vlt y x = false) : x = y := by
  rw [vlt_false] at *
  cases x; cases y
  simp only [S44.mk.injEq] at *
  omega
theorem ltOf_vcf : ltOf vcf = vlt := rfl

theorem vCells_len (x : S44) : (vCells x).length = 3 := rfl
theorem flat_get : ∀ (ss : List S44) (j : Nat) (hj : j < ss.length * 3), (ss.flatMap vCells)[j]? = some ((vCells (ss[j / 3]'(by omega)))[j % 3]!)
  | [], j, hj => by simp at hj
  | x :: ss, j, hj => by
    rw [List.flatMap_cons]
    rcases Nat.lt_or_ge j 3 with h | h
    · rw [List.getElem?_append_left (by rw [vCells_len]; exact h)]
      match j, h with
      | 0, _ => rfl
      | 1, _ => rfl
      | 2, _ => rfl
      | j + 3, h => omega
    · rw [List.getElem?_append_right (by rw [vCells_len]; exact h), vCells_len]
      have ih := flat_get ss (j - 3) (by simp at hj; omega)
      rw [ih]
      obtain ⟨i, rfl⟩ : ∃ i, j = i + 3 := ⟨j - 3, by omega⟩
      have e1 : (i + 3) / 3 = i / 3 + 1 := by omega
      have e2 : (i + 3) % 3 = i % 3 := by omega
      simp [e1, e2]
theorem flatK_get (ss : List S44) (j : Nat) (hj : j < ss.length * 3) : (ss.flatMap vCells)[j]? = some ((flatK vCells 3 ss.toArray)[j]!) := by
  rw [flat_get ss j hj, get_flatK _ _ _ _ (by simpa using hj)]
  congr 3
  rw [getElem!_pos _ _ (by simp; omega)]
  simp
theorem holdsK_of_block {w : World} {g : Nat} {cur : Array Value} {e : TypeId} {ss : List S44} (hb : w.heap[g]? = some (.cells cur e (0, 0))) (ht : cur.toList.take (ss.length * 3) = ss.flatMap vCells) : HoldsK vCells 3 w g 0 ss.toArray := by
  intro j hj
  have hj' : j < ss.length * 3 := by simpa using hj
  refine ⟨?_, by simp [World.frozen?, hb]⟩
  have h1 : (cur.toList.take (ss.length * 3))[j]? = (ss.flatMap vCells)[j]? := by rw [ht]
  rw [List.getElem?_take_of_lt hj', flatK_get ss j hj'] at h1
  simp only [World.cell?, hb, Nat.zero_add]
  simp only [Option.isSome_none, Bool.false_eq_true, if_false]
  rw [← Array.getElem?_toList, h1]
  rfl
theorem heap_sortedK {w : World} {g n : Nat} {os : Array Obj} {cur : Array Value} {e : TypeId} {fr : Nat × Nat} (d : Array S44) (hb : w.heap[g]? = some (.cells cur e fr)) :
    (sortWorldK vCells 3 w g 0 n d os).heap[g]? = some (.cells (putCells id 0 (flatK vCells 3 d) cur) e fr) := by
  have hg : g < w.heap.size := (Array.getElem?_eq_some_iff.1 hb).1
  unfold sortWorldK putRowK
  rw [heap_grow_old _ _ (by simpa using hg)]
  simp [putRow, mapBlock, Sort.ahead, Array.getElem?_modify, hb, onCells]
theorem grownBy_sortedK {w : World} {g n : Nat} {os : Array Obj} (d : Array S44) : w.grownBy (sortWorldK vCells 3 w g 0 n d os) (some g) := by
  unfold sortWorldK putRowK
  refine ⟨rfl, rfl, rfl, by simp, fun k hk hne => ?_⟩
  rw [heap_grow_old _ _ (by simpa using hk)]
  have : g ≠ k := fun e => hne (by rw [e])
  simp [putRow, mapBlock, Sort.ahead, Array.getElem?_modify, this]
theorem take_putCellsK (cur : Array Value) (ts : List S44) (h : ts.length * 3 ≤ cur.size) : (putCells id 0 (flatK vCells 3 ts.toArray) cur).toList.take (ts.length * 3) = ts.flatMap vCells := by
  apply List.ext_getElem?
  intro j
  by_cases hj : j < ts.length * 3
  · rw [List.getElem?_take_of_lt hj, Array.getElem?_toList, flatK_get ts j hj]
    simp [putCells, hj, show j < cur.size by omega]
  · rw [List.getElem?_take_eq_none (by omega), List.getElem?_eq_none (by rw [flat_len]; omega)]

theorem cmp_lays (blk off size : Nat) (w : World) : CmpLays Tryz.prog 37 #[] vCells 3 vcf blk off size w :=
  fun m os dk _ x y => semver_Compare.grew 5 _ _ _ _ _ _ _ _ (cmp_f 1 x.f0 x.f1 x.f2 y.f0 y.f1 y.f2)

theorem reps_flat (w : World) (base : Nat) (ok : Nat → Prop) : ∀ ss : List S44, Reps (k44.M w base ok) 3 ss (ss.flatMap vCells)
  | [] => Reps.none _ _
  | x :: ss => by
    refine ⟨by rw [flat_len], fun j p hp => ?_⟩
    cases j with
    | zero =>
      simp only [List.getElem?_cons_zero, Option.some.injEq] at hp
      subst hp
      exact k44_mkM w base ok _
    | succ j =>
      simp only [List.getElem?_cons_succ] at hp
      have := (reps_flat w base ok ss).2 j p hp
      rw [List.flatMap_cons, show (j + 1) * 3 = 3 + j * 3 by omega]
      simpa [vCells, ← List.drop_drop] using this
theorem R_of_row {w : World} {base : Nat} {v : Value} {ss : List S44} (h : w.ownsRow base 44 3 v ss.length (ss.flatMap vCells)) : Kd.R k44 44 w base (fun _ => True) v ss :=
  ⟨fun _ _ => trivial, _, h, reps_flat _ _ _ _⟩

set_option maxRecDepth 100000 in
theorem semver_Sorted.calls (A : Option Addr) (c : Nat) (l r : List S44) (w : World) (hr : Kd.C k44 w A l.length l) (hc : l.length ≤ c) (h : semver_Sorted.f l = some r) :
    Calls Tryz.prog 26 #[.slice A l.length c] w fun e w' => ∃ v : Value, e = .returned v ∧ Kd.R k44 44 w' w.heap.size (fun _ => True) v r ∧ Below w.heap.size w w' := by
  unfold semver_Sorted.f at h
  split at h
  · rename_i hl
    obtain rfl := Option.some.inj h
    refine sorted_walk A c l w hr hc hl _ fun v wr hown hB => ?_
    obtain ⟨hlen, hcase⟩ := hown
    have hpl : ((ddp l).mergeSort fun x y => !vlt y x).length = (ddp l).length := List.length_mergeSort _
    rcases hcase with ⟨rfl, h0⟩ | ⟨g, cap, cur, rfl, hg, hb, h1, h2, h3, h4⟩
    · have hnil : ddp l = [] := List.eq_nil_of_length_eq_zero h0
      refine (AnyF.slices_SortFunc_none Tryz.sortVer none 0 _ wr).mono ?_
      rintro e w' ⟨rfl, rfl⟩
      refine ⟨rfl, _, rfl, ?_, hB⟩
      rw [hnil]
      simpa using Kd.R_nil k44 _ _ _ _
    · have hH := holdsK_of_block hb (ss := ddp l) h4
      have eg : ∀ args w, (callFunc 37 args).run Tryz.prog w = .ok (.enter 37 args) w := enters_of Tryz.func37 (by kernel_rfl) rfl
      have hlt : g < wr.heap.size := (Array.getElem?_eq_some_iff.1 hb).1
      have hsz : (ddp l).toArray.size = (ddp l).length := by simp
      have hcon := AnyQ.slices_SortFunc_total Tryz.sortVer 3 (fun w => by kernel_rfl) (fun w => by kernel_rfl) vCells vCells_len (fun x v hv => by simp [vCells] at hv; rcases hv with rfl | rfl | rfl <;> rfl) vcf vlt_swo 37 #[] g 0 cap (ddp l).toArray wr eg (cmp_lays _ _ _ _) hH hlt (by rw [hsz]; have := ddp_len l; omega) vlt_total
      rw [hsz] at hcon
      refine hcon.mono ?_
      rintro e w' ⟨rfl, n, os, rfl⟩
      refine ⟨rfl, _, rfl, ?_, ?_⟩
      · refine Kd.R_lower (base := w.heap.size + 1) (R_of_row ?_) (Nat.le_succ _)
        refine ⟨by rw [flat_len], .inr ⟨g, cap, _, by rw [hpl], hg, heap_sortedK _ hb, by rw [hpl]; exact h1, h2, by simp [putCells, h3], ?_⟩⟩
        exact take_putCellsK cur _ (by rw [hpl, h3]; omega)
      · exact hB.grown (grownBy_sortedK _) hB.size (fun j hj => by cases hj; omega)
  · cases h
end Go.Proofs.YtaikpnenegifnaaGreatDoor
