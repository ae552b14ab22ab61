/- The law SemverSorts' printed answer is true, in plain Lean; no program in sight. -/
import Derived.Test.YtaikpnenegifnaaGreatDoorXMx9
import Derived.Test.YtaikpnenegifnaaGreatDoorPureAround
import Derived.Test.YtaikpnenegifnaaGreatDoorPureAlive
namespace Go.Proofs.YtaikpnenegifnaaGreatDoor
set_option linter.unusedSimpArgs false
set_option linter.unusedVariables false
open Go.RowKit Go.Proofs.YtaikpnenegifnaaGreatDoorW.PrintWords Go.Proofs.YtaikpnenegifnaaGreatDoor.XM

theorem less_f (x y : S44) : touchstoneref05_Less.f x.f0 x.f1 x.f2 y.f0 y.f1 y.f2 = some (vlt x y) := by
  unfold touchstoneref05_Less.f
  have h := vlt_iff x y
  by_cases h0 : x.f0 = y.f0
  · rw [if_pos h0]
    by_cases h1 : x.f1 = y.f1
    · rw [if_pos h1]; congr 1; rw [Bool.eq_iff_iff, h, decide_eq_true_eq]; omega
    · rw [if_neg h1]; congr 1; rw [Bool.eq_iff_iff, h, decide_eq_true_eq]; omega
  · rw [if_neg h0]; congr 1; rw [Bool.eq_iff_iff, h, decide_eq_true_eq]; omega
theorem neq_b (x y : S44) : (!(x.f0 == y.f0) || (!(x.f1 == y.f1) || !(x.f2 == y.f2))) = decide (x ≠ y) := by
  have h := eqb_iff x y
  rw [Bool.eq_iff_iff, decide_eq_true_eq, Ne, ← h]
  cases x.f0 == y.f0 <;> cases x.f1 == y.f1 <;> cases x.f2 == y.f2 <;> simp

/-! ### Strictly ascending lists -/
def Strict (l : List S44) : Prop := l.Pairwise (fun x y => vlt x y = true)
theorem strict_eq : ∀ (A B : List S44), Strict A → Strict B → (∀ x, x ∈ A ↔ x ∈ B) → A = B
  | [], [], _, _, _ => rfl
  | [], b :: B, _, _, h => absurd ((h b).2 (by simp)) (by simp)
  | a :: A, [], _, _, h => absurd ((h a).1 (by simp)) (by simp)
  | a :: A, b :: B, hA, hB, h => by
    obtain ⟨a1, a2⟩ := List.pairwise_cons.1 hA
    obtain ⟨b1, b2⟩ := List.pairwise_cons.1 hB
    have hab : a = b := by
      rcases List.mem_cons.1 ((h a).1 (by simp)) with e | e
      · exact e
      · rcases List.mem_cons.1 ((h b).2 (by simp)) with e' | e'
        · exact e'.symm
        · have h1 := b1 a e
          have h2 := a1 b e'
          have := vlt_swo.trans _ _ _ h1 h2
          rw [vlt_swo.irrefl] at this; cases this
    subst hab
    rw [strict_eq A B a2 b2 fun x => ?_]
    constructor
    · intro hx
      rcases List.mem_cons.1 ((h x).1 (List.mem_cons_of_mem _ hx)) with e | e
      · subst e
        have := a1 x hx
        rw [vlt_swo.irrefl] at this; cases this
      · exact e
    · intro hx
      rcases List.mem_cons.1 ((h x).2 (List.mem_cons_of_mem _ hx)) with e | e
      · subst e
        have := b1 x hx
        rw [vlt_swo.irrefl] at this; cases this
      · exact e
theorem foldl_nodup : ∀ (l o : List S44), o.Nodup → (l.foldl dstep o).Nodup
  | [], o, h => h
  | x :: l, o, h => by
    rw [List.foldl_cons]
    refine foldl_nodup l _ ?_
    unfold dstep
    split
    · exact h
    · rename_i hx
      rw [List.nodup_append]
      exact ⟨h, by simp, fun a ha b hb => by simp at hb; subst hb; intro e; subst e; exact hx ha⟩
def srt (l : List S44) : List S44 := (ddp l).mergeSort fun x y => !vlt y x
theorem srt_mem (x : S44) (l : List S44) : x ∈ srt l ↔ x ∈ l := sorted_mem x l
theorem srt_strict (l : List S44) : Strict (srt l) := by
  have h1 := sorted_pair l
  have h2 : (srt l).Nodup := (List.mergeSort_perm (ddp l) _).nodup_iff.2 (foldl_nodup l [] (by simp))
  have h3 : (srt l).Pairwise (fun x y => vlt y x = false ∧ x ≠ y) := h1.and h2
  refine h3.imp fun {x y} h => ?_
  rcases e : vlt x y with _ | _
  · exact absurd (vlt_total x y e h.1) h.2
  · rfl
theorem srt_len (l : List S44) : (srt l).length ≤ l.length := by
  have h1 := ddp_len l
  have h2 : (srt l).length = (ddp l).length := List.length_mergeSort _
  omega

/-! ### The reference's Sorted -/
/-- How many versions of the list stand ahead of x. -/
def place (o : List S44) (x : S44) : Nat := (o.takeWhile fun y => vlt y x).length
def ins (o : List S44) (x : S44) : List S44 := if (o.drop (place o x)).head? = some x then o else o.take (place o x) ++ [x] ++ o.drop (place o x)
theorem place_le (o : List S44) (x : S44) : place o x ≤ o.length := (List.takeWhile_sublist _).length_le
theorem ins_mem (o : List S44) (x z : S44) : z ∈ ins o x ↔ z ∈ o ∨ z = x := by
  unfold ins
  split
  · rename_i h
    constructor
    · exact .inl
    · rintro (h1 | rfl)
      · exact h1
      · exact List.mem_of_mem_drop (i := place o z) (List.mem_of_mem_head? h)
  · rw [List.mem_append, List.mem_append, List.mem_singleton]
    constructor
    · rintro ((h1 | h1) | h1)
      · exact .inl (List.mem_of_mem_take h1)
      · exact .inr h1
      · exact .inl (List.mem_of_mem_drop h1)
    · rintro (h1 | h1)
      · rw [← List.take_append_drop (place o x) o, List.mem_append] at h1
        rcases h1 with h1 | h1
        · exact .inl (.inl h1)
        · exact .inr h1
      · exact .inl (.inr h1)
theorem take_place (o : List S44) (x : S44) : o.take (place o x) = o.takeWhile fun y => vlt y x := by
  unfold place
  exact (List.prefix_iff_eq_take.1 (List.takeWhile_prefix _)).symm
theorem drop_place : ∀ (o : List S44) (x : S44), o.drop (place o x) = o.dropWhile fun y => vlt y x
  | [], x => rfl
  | y :: o, x => by
    unfold place
    by_cases h : vlt y x = true
    · rw [List.takeWhile_cons_of_pos (p := fun y => vlt y x) h, List.dropWhile_cons_of_pos (p := fun y => vlt y x) h]
      simpa [place] using drop_place o x
    · rw [List.takeWhile_cons_of_neg (p := fun y => vlt y x) h, List.dropWhile_cons_of_neg (p := fun y => vlt y x) h]
      rfl
theorem ins_strict (o : List S44) (x : S44) (h : Strict o) : Strict (ins o x) := by
  unfold ins
  split
  · exact h
  · rename_i hx
    have e := List.take_append_drop (place o x) o
    have hp : Strict (o.take (place o x) ++ o.drop (place o x)) := by rw [e]; exact h
    obtain ⟨p1, p2, p3⟩ := List.pairwise_append.1 hp
    have t1 : ∀ a ∈ o.take (place o x), vlt a x = true := by
      intro a ha
      rw [take_place] at ha
      exact List.all_eq_true.1 List.all_takeWhile a ha
    have d1 : ∀ b ∈ o.drop (place o x), vlt x b = true := by
      cases hd : o.drop (place o x) with
      | nil => intro b hb; cases hb
      | cons y r =>
        rw [hd] at hx p2
        have hy : vlt y x = false := by
          have := List.head?_dropWhile_not (fun y => vlt y x) o
          rw [← drop_place, hd] at this
          simpa using this
        have hne : y ≠ x := by simpa using hx
        have hxy : vlt x y = true := by
          rcases e : vlt x y with _ | _
          · exact absurd (vlt_total y x hy e) hne
          · rfl
        intro b hb
        rcases List.mem_cons.1 hb with rfl | hb
        · exact hxy
        · exact vlt_swo.trans _ _ _ hxy ((List.pairwise_cons.1 p2).1 b hb)
    rw [List.append_assoc]
    refine List.pairwise_append.2 ⟨p1, List.pairwise_append.2 ⟨by simp, p2, fun a ha b hb => ?_⟩, fun a ha b hb => ?_⟩
    · simp at ha; subst ha; exact d1 b hb
    · rcases List.mem_append.1 hb with hb | hb
      · simp at hb; subst hb; exact t1 a ha
      · exact p3 a ha b hb
theorem fold_ins : ∀ (l o : List S44), Strict o → Strict (l.foldl ins o) ∧ ∀ x, x ∈ l.foldl ins o ↔ x ∈ o ∨ x ∈ l
  | [], o, h => ⟨h, fun x => by simp⟩
  | y :: l, o, h => by
    obtain ⟨h1, h2⟩ := fold_ins l (ins o y) (ins_strict o y h)
    refine ⟨h1, fun x => ?_⟩
    rw [List.foldl_cons, h2 x, ins_mem, List.mem_cons]
    constructor
    · rintro ((h | h) | h)
      · exact .inl h
      · exact .inr (.inl h)
      · exact .inr (.inr h)
    · rintro (h | h | h)
      · exact .inl (.inl h)
      · exact .inl (.inr h)
      · exact .inr h
theorem fold_ins_srt (l : List S44) : l.foldl ins [] = srt l := by
  obtain ⟨h1, h2⟩ := fold_ins l [] List.Pairwise.nil
  exact strict_eq _ _ h1 (srt_strict l) fun x => by rw [h2, srt_mem]; simp
theorem place_lt {o : List S44} {x : S44} {j : Nat} (h : j < place o x) : j < o.length ∧ vlt (rd_T44 o (j : Int)) x = true := by
  have hl := place_le o x
  have hj : j < o.length := by omega
  refine ⟨hj, ?_⟩
  have hm : rd_T44 o (j : Int) ∈ o.take (place o x) := by
    have h1 : (o.take (place o x))[j]? = some (rd_T44 o (j : Int)) := by
      rw [List.getElem?_take_of_lt h]
      unfold rd_T44
      rw [Int.toNat_natCast, List.getD_eq_getElem?_getD, List.getElem?_eq_getElem hj, Option.getD_some]
    exact List.mem_of_getElem? h1
  rw [take_place] at hm
  exact (List.all_eq_true.1 (List.all_takeWhile (p := fun y => vlt y x) (l := o))) _ hm
theorem place_at {o : List S44} {x : S44} (h : place o x < o.length) : vlt (rd_T44 o (place o x : Int)) x = false ∧ (o.drop (place o x)).head? = some (rd_T44 o (place o x : Int)) := by
  have hd := rd_drop o (place o x) h
  refine ⟨?_, by rw [hd]; rfl⟩
  have := List.head?_dropWhile_not (fun y => vlt y x) o
  rw [← drop_place, hd] at this
  simpa using this
theorem rs_l1 (l o : List S44) (i : Nat) (hi : i < l.length) (hl : l.length ≤ 60) (ho : o.length ≤ 60) : ∀ m j q : Nat, j + m = place o (rd_T44 l (i : Int)) →
    touchstoneref05_Sorted.l1 (m + 1 + q) l o (i : Int) (j : Int) = touchstoneref05_Sorted.l0 q l (ins o (rd_T44 l (i : Int))) (wrap64 ((i : Int) + 1)) := by
  intro m
  induction m with
  | zero =>
    intro j q hj
    rw [show 0 + 1 + q = q + 1 by omega, touchstoneref05_Sorted.l1, less_f, eta, neq_b]
    generalize rd_T44 l (i : Int) = x at *
    have hle := place_le o x
    have hj' : j = place o x := by omega
    subst hj'
    have hput : ∀ (h : ¬ (o.drop (place o x)).head? = some x), ins o x = o.take (place o x) ++ [x] ++ o.drop (place o x) := fun h => by unfold ins; rw [if_neg h]
    have t1 : (o.take (place o x)).length = place o x := by rw [List.length_take]; omega
    have t2 : (o.drop (place o x)).length = o.length - place o x := List.length_drop ..
    by_cases hlt : place o x < o.length
    · obtain ⟨p1, p2⟩ := place_at hlt
      rw [if_pos (by omega), if_pos (by omega), if_pos (by omega), if_pos (by omega), p1]
      simp only [Option.bind_some, Bool.false_eq_true, if_false]
      rw [if_neg (by omega)]
      by_cases hx : rd_T44 o (place o x : Int) = x
      · rw [if_neg (by simpa using hx)]
        congr 1
        unfold ins
        rw [if_pos (by rw [p2, hx])]
      · rw [if_pos (by simpa using hx), hput (by rw [p2]; simpa using hx)]
        simp only [List.nil_append, Int.toNat_natCast, List.length_nil, List.length_append, List.length_cons, t1, t2]
        rw [if_pos (by omega), if_pos (by omega), if_pos (by omega), if_pos (by omega)]
    · have hnil : o.drop (place o x) = [] := List.drop_eq_nil_of_le (by omega)
      rw [if_neg (by omega), if_pos (by omega), hput (by rw [hnil]; simp)]
      simp only [Option.bind_some, List.nil_append, Int.toNat_natCast, List.length_nil, List.length_append, List.length_cons, t1, t2]
      repeat rw [if_pos (by omega)]
  | succ m ih =>
    intro j q hj
    obtain ⟨h1, h2⟩ := place_lt (o := o) (x := rd_T44 l (i : Int)) (j := j) (by omega)
    have ih' := ih (j + 1) q (by omega)
    rw [show m + 1 + 1 + q = (m + 1 + q) + 1 by omega, touchstoneref05_Sorted.l1, if_pos (by omega), if_pos (by omega), if_pos (by omega), if_pos (by omega), less_f, h2]
    simp only [Option.bind_some, if_true]
    rw [show wrap64 ((j : Int) + 1) = ((j + 1 : Nat) : Int) from (w64b (by omega) (by omega)).trans (by omega)]
    exact ih'
theorem ins_len (o : List S44) (x : S44) : (ins o x).length ≤ o.length + 1 := by
  unfold ins
  split
  · omega
  · have := place_le o x
    simp only [List.length_append, List.length_take, List.length_drop, List.length_cons, List.length_nil]
    omega
theorem rs_l0 (l : List S44) (hl : l.length ≤ 60) : ∀ (m i k : Nat) (o : List S44), i + m = l.length → o.length ≤ i → 70 * m + 1 ≤ k → touchstoneref05_Sorted.l0 k l o (i : Int) = some ((l.drop i).foldl ins o) := by
  intro m
  induction m with
  | zero =>
    intro i k o hi ho hk
    obtain ⟨k, rfl⟩ : ∃ q, k = q + 1 := ⟨k - 1, by omega⟩
    rw [touchstoneref05_Sorted.l0, if_neg (by omega), List.drop_eq_nil_of_le (by omega)]
    rfl
  | succ m ih =>
    intro i k o hi ho hk
    have hp := place_le o (rd_T44 l (i : Int))
    have hi2 := ins_len o (rd_T44 l (i : Int))
    obtain ⟨q, rfl⟩ : ∃ q, k = (place o (rd_T44 l (i : Int)) + 1 + q) + 1 := ⟨k - 2 - place o (rd_T44 l (i : Int)), by omega⟩
    have h1 := rs_l1 l o i (by omega) hl (by omega) (place o (rd_T44 l (i : Int))) 0 q (by omega)
    rw [touchstoneref05_Sorted.l0, if_pos (by omega)]
    rw [show ((0 : Nat) : Int) = 0 from rfl] at h1
    rw [h1, show wrap64 ((i : Int) + 1) = ((i + 1 : Nat) : Int) from (w64b (by omega) (by omega)).trans (by omega), ih (i + 1) q _ (by omega) (by omega) (by omega), rd_drop l i (by omega), List.foldl_cons]
theorem rsorted_f (l : List S44) (hl : l.length ≤ 60) (k : Nat) (hk : 4300 ≤ k) : touchstoneref05_Sorted.f k l = some (srt l) := by
  unfold touchstoneref05_Sorted.f
  have := rs_l0 l hl l.length 0 k [] (by omega) (by simp) (by omega)
  rw [show ((0 : Nat) : Int) = 0 from rfl] at this
  rw [this, List.drop_zero, fold_ins_srt]
theorem same_f (L : List S44) (hL : L.length ≤ 1000) (k : Nat) (hk : L.length + 2 ≤ k) : touchstoneref05_Same.f k L L = some true := by
  unfold touchstoneref05_Same.f
  rw [if_pos rfl]
  have key : ∀ (m i k : Nat), i + m = L.length → m + 1 ≤ k → touchstoneref05_Same.l0 k L L (i : Int) = some true := by
    intro m
    induction m with
    | zero =>
      intro i k hi hk
      obtain ⟨k, rfl⟩ : ∃ q, k = q + 1 := ⟨k - 1, by omega⟩
      rw [touchstoneref05_Same.l0, if_neg (by omega)]
    | succ m ih =>
      intro i k hi hk
      obtain ⟨k, rfl⟩ : ∃ q, k = q + 1 := ⟨k - 1, by omega⟩
      rw [touchstoneref05_Same.l0, if_pos (by omega), if_pos (by omega), if_pos (by omega), neq_b, if_neg (by simp), show wrap64 ((i : Int) + 1) = ((i + 1 : Nat) : Int) from (w64b (by omega) (by omega)).trans (by omega)]
      exact ih (i + 1) k (by omega) (by omega)
  exact key L.length 0 k (by omega) (by omega)
/-! ### The reference's Around -/
def bstep (V : S44) (p : List S44 × List S44) (x : S44) : List S44 × List S44 :=
  if x.f0 = V.f0 ∧ x ≠ V then
    (if vlt x V = true ∧ (p.1 = [] ∨ vlt (rd_T44 p.1 0) x = true) then [x] else p.1,
     if vlt V x = true ∧ (p.2 = [] ∨ vlt x (rd_T44 p.2 0) = true) then [x] else p.2)
  else p
theorem len0 (b : List S44) : ((b.length : Int) = 0) ↔ b = [] := by
  constructor
  · intro h; exact List.eq_nil_of_length_eq_zero (by omega)
  · rintro rfl; rfl
theorem ra_j3 (l : List S44) (V x : S44) (i : Nat) (hi : i < l.length) (hx : rd_T44 l (i : Int) = x) (b a : List S44) (k : Nat) :
    touchstoneref05_Around.j3 (k + 1) l b a (i : Int) V.f0 V.f1 V.f2 = touchstoneref05_Around.l0 k l b (if vlt V x = true ∧ (a = [] ∨ vlt x (rd_T44 a 0) = true) then [x] else a) (wrap64 ((i : Int) + 1)) V.f0 V.f1 V.f2 := by
  rw [touchstoneref05_Around.j3, if_pos (by omega), if_pos (by omega), hx, less_f, Option.bind_some, eta]
  by_cases h1 : vlt V x = true
  · rw [if_pos h1]
    by_cases h2 : a = []
    · rw [if_pos ((len0 a).2 h2), if_pos ⟨h1, .inl h2⟩]
    · have hp : a.length ≠ 0 := fun h => h2 (List.eq_nil_of_length_eq_zero h)
      rw [if_neg (fun h => h2 ((len0 a).1 h)), if_pos (by omega), less_f, Option.bind_some]
      by_cases h3 : vlt x (rd_T44 a 0) = true
      · rw [if_pos h3, if_pos ⟨h1, .inr h3⟩]
      · rw [if_neg h3, if_neg (fun h => h.2.elim h2 h3)]
  · rw [if_neg h1, if_neg (fun h => h1 h.1)]
theorem ra_loop (l : List S44) (V : S44) (hl : l.length ≤ 1000) : ∀ (m i k : Nat) (b a : List S44), i + m = l.length → 4 * m + 1 ≤ k →
    touchstoneref05_Around.l0 k l b a (i : Int) V.f0 V.f1 V.f2 = some ((l.drop i).foldl (bstep V) (b, a)) := by
  intro m
  induction m with
  | zero =>
    intro i k b a hi hk
    obtain ⟨k, rfl⟩ : ∃ q, k = q + 1 := ⟨k - 1, by omega⟩
    rw [touchstoneref05_Around.l0, if_neg (by omega), List.drop_eq_nil_of_le (by omega)]
    rfl
  | succ m ih =>
    intro i k b a hi hk
    obtain ⟨k, rfl⟩ : ∃ q, k = q + 4 := ⟨k - 4, by omega⟩
    have hw : wrap64 ((i : Int) + 1) = ((i + 1 : Nat) : Int) := (w64b (by omega) (by omega)).trans (by omega)
    have next : ∀ k' b a, k ≤ k' → touchstoneref05_Around.l0 k' l b a (wrap64 ((i : Int) + 1)) V.f0 V.f1 V.f2 = some ((l.drop (i + 1)).foldl (bstep V) (b, a)) := by
      intro k' b a hk'
      rw [hw]
      exact ih (i + 1) k' b a (by omega) (by omega)
    clear hw
    have hd := rd_drop l i (by omega)
    obtain ⟨x, hx⟩ : ∃ x, rd_T44 l (i : Int) = x := ⟨_, rfl⟩
    rw [touchstoneref05_Around.l0, if_pos (by omega), if_pos (by omega), hd, List.foldl_cons, hx]
    by_cases h0 : x.f0 = V.f0
    · rw [if_pos h0, touchstoneref05_Around.j1]
      by_cases hv : x = V
      · rw [if_pos ((eqb_iff x V).2 hv), next _ _ _ (by omega), show bstep V (b, a) x = (b, a) from by unfold bstep; rw [if_neg (fun h => h.2 hv)]]
      · rw [if_neg (fun h => hv ((eqb_iff x V).1 h)), if_pos (by omega), if_pos (by omega), hx, less_f, Option.bind_some]
        have key : ∀ c : Bool, c = decide (vlt x V = true ∧ (b = [] ∨ vlt (rd_T44 b 0) x = true)) → touchstoneref05_Around.j2 (k + 2) l b a (i : Int) c V.f0 V.f1 V.f2 = some ((l.drop (i + 1)).foldl (bstep V) (bstep V (b, a) x)) := by
          intro c hc
          rw [touchstoneref05_Around.j2, show bstep V (b, a) x = (if vlt x V = true ∧ (b = [] ∨ vlt (rd_T44 b 0) x = true) then [x] else b, if vlt V x = true ∧ (a = [] ∨ vlt x (rd_T44 a 0) = true) then [x] else a) from by unfold bstep; rw [if_pos ⟨h0, hv⟩]]
          by_cases hh : vlt x V = true ∧ (b = [] ∨ vlt (rd_T44 b 0) x = true)
          · rw [decide_eq_true hh] at hc
            rw [if_pos hc, if_pos (by omega), if_pos (by omega), hx, eta, ra_j3 l V x i (by omega) hx, next _ _ _ (by omega), if_pos hh]
          · rw [decide_eq_false hh] at hc
            rw [if_neg (by rw [hc]; decide), ra_j3 l V x i (by omega) hx, next _ _ _ (by omega), if_neg hh]
        by_cases h1 : vlt x V = true
        · rw [if_pos h1]
          by_cases h2 : b = []
          · rw [if_pos ((len0 b).2 h2)]
            exact key true (by simp [h1, h2])
          · have hp : b.length ≠ 0 := fun h => h2 (List.eq_nil_of_length_eq_zero h)
            rw [if_neg (fun h => h2 ((len0 b).1 h)), if_pos (by omega), less_f, Option.bind_some]
            exact key _ (by rw [Bool.eq_iff_iff, decide_eq_true_eq]; simp [h1, h2])
        · rw [if_neg h1]
          exact key false (by rw [eq_comm, decide_eq_false_iff_not]; exact fun h => h1 h.1)
    · rw [if_neg h0, touchstoneref05_Around.j1, if_pos rfl, next _ _ _ (by omega), show bstep V (b, a) x = (b, a) from by unfold bstep; rw [if_neg (fun h => h0 h.1)]]
def BInv (V : S44) (P : List S44) (p : List S44 × List S44) : Prop := AInv V P p ∧ (∀ y ∈ p.1, vlt y V = true) ∧ (∀ y ∈ p.2, vlt y V = false)
theorem one_of_len {b : List S44} (h : b.length ≤ 1) (hn : b ≠ []) : ∃ y, b = [y] := by
  match b, h, hn with
  | [], _, hn => exact absurd rfl hn
  | [y], _, _ => exact ⟨y, rfl⟩
  | y :: u :: r, h, _ => simp at h
theorem binv_eq {V : S44} {P : List S44} {p q : List S44 × List S44} (hp : BInv V P p) (hq : BInv V P q) : p = q := by
  obtain ⟨⟨bl, al, bm, am, bx, ax⟩, bv, av⟩ := hp
  obtain ⟨⟨bl', al', bm', am', bx', ax'⟩, bv', av'⟩ := hq
  refine Prod.ext ?_ ?_
  · by_cases h : p.1 = []
    · by_cases h' : q.1 = []
      · rw [h, h']
      · obtain ⟨y, hy⟩ := one_of_len bl' h'
        obtain ⟨m1, m2, m3⟩ := bm' y (by rw [hy]; simp)
        obtain ⟨z, hz, -⟩ := bx y m1 m2 m3 (bv' y (by rw [hy]; simp))
        rw [h] at hz; cases hz
    · obtain ⟨y, hy⟩ := one_of_len bl h
      obtain ⟨m1, m2, m3⟩ := bm y (by rw [hy]; simp)
      obtain ⟨z, hz, hzy⟩ := bx' y m1 m2 m3 (bv y (by rw [hy]; simp))
      obtain ⟨n1, n2, n3⟩ := bm' z (by rw [hz]; simp)
      obtain ⟨u, hu, huz⟩ := bx z n1 n2 n3 (bv' z (by rw [hz]; simp))
      rw [hy] at hu
      simp only [List.cons.injEq, and_true] at hu
      subst hu
      rw [hy, hz, vlt_total y z huz hzy]
  · by_cases h : p.2 = []
    · by_cases h' : q.2 = []
      · rw [h, h']
      · obtain ⟨y, hy⟩ := one_of_len al' h'
        obtain ⟨m1, m2, m3⟩ := am' y (by rw [hy]; simp)
        obtain ⟨z, hz, -⟩ := ax y m1 m2 m3 (av' y (by rw [hy]; simp))
        rw [h] at hz; cases hz
    · obtain ⟨y, hy⟩ := one_of_len al h
      obtain ⟨m1, m2, m3⟩ := am y (by rw [hy]; simp)
      obtain ⟨z, hz, hzy⟩ := ax' y m1 m2 m3 (av y (by rw [hy]; simp))
      obtain ⟨n1, n2, n3⟩ := am' z (by rw [hz]; simp)
      obtain ⟨u, hu, huz⟩ := ax z n1 n2 n3 (av' z (by rw [hz]; simp))
      rw [hy] at hu
      simp only [List.cons.injEq, and_true] at hu
      subst hu
      rw [hy, hz, vlt_total y z hzy huz]
theorem binv_step {V : S44} {P : List S44} {p : List S44 × List S44} {x : S44} (h : BInv V P p) : BInv V (P ++ [x]) (bstep V p x) := by
  obtain ⟨⟨bl, al, bm, am, bx, ax⟩, bv, av⟩ := h
  have irr := vlt_swo.irrefl
  have tr := vlt_swo.trans
  unfold bstep
  by_cases hq : x.f0 = V.f0 ∧ x ≠ V
  · rw [if_pos hq]
    have memP : ∀ z ∈ P ++ [x], z ∈ P ∨ z = x := fun z hz => by simpa using hz
    have xv : vlt x V = false → vlt V x = true := fun h => by
      rcases e : vlt V x with _ | _
      · exact absurd (vlt_total x V h e) hq.2
      · rfl
    have vx : vlt V x = true → vlt x V = false := fun h => by
      rcases e : vlt x V with _ | _
      · rfl
      · have := tr _ _ _ h e
        rw [irr] at this; cases this
    refine ⟨⟨?_, ?_, ?_, ?_, ?_, ?_⟩, ?_, ?_⟩
    · dsimp only
      split
      · simp
      · exact bl
    · dsimp only
      split
      · simp
      · exact al
    · intro y hy
      dsimp only at hy
      split at hy
      · simp only [List.mem_singleton] at hy
        subst hy
        exact ⟨by simp, hq⟩
      · exact ⟨by simp [(bm y hy).1], (bm y hy).2⟩
    · intro y hy
      dsimp only at hy
      split at hy
      · simp only [List.mem_singleton] at hy
        subst hy
        exact ⟨by simp, hq⟩
      · exact ⟨by simp [(am y hy).1], (am y hy).2⟩
    · intro z hz h1 h2 h3
      by_cases hc : vlt x V = true ∧ (p.1 = [] ∨ vlt (rd_T44 p.1 0) x = true)
      · rw [if_pos hc]
        refine ⟨x, rfl, ?_⟩
        rcases memP z hz with hz | rfl
        · obtain ⟨y, hy, hyz⟩ := bx z hz h1 h2 h3
          rcases hc.2 with hc2 | hc2
          · rw [hc2] at hy; cases hy
          · rw [hy] at hc2
            rcases e : vlt x z with _ | _
            · rfl
            · have := tr _ _ _ (show vlt y x = true from hc2) e
              rw [hyz] at this; cases this
        · exact irr _
      · rw [if_neg hc]
        rcases memP z hz with hz | rfl
        · exact bx z hz h1 h2 h3
        · obtain ⟨y, hy⟩ := one_of_len bl (fun e => hc ⟨h3, .inl e⟩)
          refine ⟨y, hy, ?_⟩
          rcases e : vlt y z with _ | _
          · rfl
          · exact absurd ⟨h3, .inr (by rw [hy]; exact e)⟩ hc
    · intro z hz h1 h2 h3
      by_cases hc : vlt V x = true ∧ (p.2 = [] ∨ vlt x (rd_T44 p.2 0) = true)
      · rw [if_pos hc]
        refine ⟨x, rfl, ?_⟩
        rcases memP z hz with hz | rfl
        · obtain ⟨y, hy, hyz⟩ := ax z hz h1 h2 h3
          rcases hc.2 with hc2 | hc2
          · rw [hc2] at hy; cases hy
          · rw [hy] at hc2
            rcases e : vlt z x with _ | _
            · rfl
            · have := tr _ _ _ e (show vlt x y = true from hc2)
              rw [hyz] at this; cases this
        · exact irr _
      · rw [if_neg hc]
        rcases memP z hz with hz | rfl
        · exact ax z hz h1 h2 h3
        · obtain ⟨y, hy⟩ := one_of_len al (fun e => hc ⟨xv h3, .inl e⟩)
          refine ⟨y, hy, ?_⟩
          rcases e : vlt z y with _ | _
          · rfl
          · exact absurd ⟨xv h3, .inr (by rw [hy]; exact e)⟩ hc
    · intro y hy
      dsimp only at hy
      split at hy
      · rename_i hc
        simp only [List.mem_singleton] at hy
        subst hy; exact hc.1
      · exact bv y hy
    · intro y hy
      dsimp only at hy
      split at hy
      · rename_i hc
        simp only [List.mem_singleton] at hy
        subst hy; exact vx hc.1
      · exact av y hy
  · rw [if_neg hq]
    refine ⟨⟨bl, al, fun y hy => ⟨by simp [(bm y hy).1], (bm y hy).2⟩, fun y hy => ⟨by simp [(am y hy).1], (am y hy).2⟩, fun z hz h1 h2 h3 => ?_, fun z hz h1 h2 h3 => ?_⟩, bv, av⟩
    · rcases List.mem_append.1 hz with hz | hz
      · exact bx z hz h1 h2 h3
      · simp only [List.mem_singleton] at hz
        subst hz; exact absurd ⟨h1, h2⟩ hq
    · rcases List.mem_append.1 hz with hz | hz
      · exact ax z hz h1 h2 h3
      · simp only [List.mem_singleton] at hz
        subst hz; exact absurd ⟨h1, h2⟩ hq
theorem binv_fold {V : S44} : ∀ (rest P : List S44) (p : List S44 × List S44), BInv V P p → BInv V (P ++ rest) (rest.foldl (bstep V) p)
  | [], P, p, h => by simpa using h
  | x :: rest, P, p, h => by
    rw [List.foldl_cons, show P ++ x :: rest = (P ++ [x]) ++ rest by simp]
    exact binv_fold rest _ _ (binv_step h)
theorem aside_fold {V : S44} : ∀ (l : List S44) (p : List S44 × List S44), (∀ y ∈ p.1, vlt y V = true) ∧ (∀ y ∈ p.2, vlt y V = false) →
    (∀ y ∈ (l.foldl (astep V) p).1, vlt y V = true) ∧ (∀ y ∈ (l.foldl (astep V) p).2, vlt y V = false)
  | [], p, h => h
  | x :: l, p, h => by
    rw [List.foldl_cons]
    refine aside_fold l _ ?_
    unfold astep
    split
    · split
      · rename_i hlt
        refine ⟨fun y hy => ?_, h.2⟩
        simp only [List.mem_singleton] at hy
        subst hy; exact hlt
      · rename_i hlt
        split
        · refine ⟨h.1, fun y hy => ?_⟩
          simp only [List.mem_singleton] at hy
          subst hy; simpa using hlt
        · exact h
    · exact h
theorem raround_f (l : List S44) (V : S44) (hl : l.length ≤ 60) (k : Nat) (hk : 300 ≤ k) : touchstoneref05_Around.f k V.f0 V.f1 V.f2 l = some (aroundL l V) := by
  unfold touchstoneref05_Around.f
  have h := ra_loop l V (by omega) l.length 0 k [] [] (by omega) (by omega)
  rw [show ((0 : Nat) : Int) = 0 from rfl, List.drop_zero] at h
  rw [h]
  congr 1
  have h0 : BInv V [] ([], []) := ⟨⟨by simp, by simp, by simp, by simp, by simp, by simp⟩, by simp, by simp⟩
  have h1 := binv_fold l [] _ h0
  rw [List.nil_append] at h1
  exact binv_eq h1 ⟨ainv_around l V, aside_fold _ _ ⟨by simp, by simp⟩⟩

/-! ### Best -/
def QB (M : Int) (T x : S44) : Prop := x.f0 = M ∧ vlt x T = false
instance (M : Int) (T x : S44) : Decidable (QB M T x) := inferInstanceAs (Decidable (_ ∧ _))
def gstep (M : Int) (T : S44) (p : Bool × S44) (x : S44) : Bool × S44 := if QB M T x ∧ (p.1 = false ∨ vlt p.2 x = true) then (true, x) else p
theorem vc_ge (x y : S44) : vcmp x.f0 x.f1 x.f2 y.f0 y.f1 y.f2 ≥ 0 ↔ vlt x y = false := by
  unfold vlt
  rw [decide_eq_false_iff_not]; omega
theorem vc_gt (x y : S44) : vcmp x.f0 x.f1 x.f2 y.f0 y.f1 y.f2 > 0 ↔ vlt y x = true := by
  unfold vlt
  rw [decide_eq_true_eq, vcmp_neg x.f0 x.f1 x.f2 y.f0 y.f1 y.f2]; omega
theorem best_loop (l : List S44) (T : S44) (M : Int) (hl : l.length ≤ 1000) : ∀ (m i k : Nat) (p : Bool × S44), i + m = l.length → m + 6 ≤ k →
    semver_Best.l0 k M p.1 l (l.length : Int) (i : Int) T.f0 T.f1 T.f2 p.2.f0 p.2.f1 p.2.f2 = some ((((l.drop i).foldl (gstep M T) p).2.f0, ((l.drop i).foldl (gstep M T) p).2.f1, ((l.drop i).foldl (gstep M T) p).2.f2, ((l.drop i).foldl (gstep M T) p).1)) := by
  intro m
  induction m with
  | zero =>
    intro i k p hi hk
    obtain ⟨k, rfl⟩ : ∃ q, k = q + 1 := ⟨k - 1, by omega⟩
    rw [semver_Best.l0, if_neg (by omega), List.drop_eq_nil_of_le (by omega)]
    rfl
  | succ m ih =>
    intro i k p hi hk
    obtain ⟨k, rfl⟩ : ∃ q, k = q + 5 := ⟨k - 5, by omega⟩
    have hw : wrap64 ((i : Int) + 1) = ((i + 1 : Nat) : Int) := (w64b (by omega) (by omega)).trans (by omega)
    have hd := rd_drop l i (by omega)
    rw [semver_Best.l0, if_pos (by omega), if_pos (by omega), if_pos (by omega), hd, List.foldl_cons, hw]
    clear hw
    have next := fun p => ih (i + 1) (k + 4) p (by omega) (by omega)
    generalize rd_T44 l (i : Int) = x at *
    by_cases h0 : x.f0 = M
    · rw [if_pos h0, cmp_f k, Option.bind_some]
      by_cases h1 : vlt x T = false
      · rw [if_pos ((vc_ge x T).2 h1)]
        by_cases h2 : p.1 = true
        · rw [if_pos h2, cmp_f k, Option.bind_some]
          by_cases h3 : vlt p.2 x = true
          · rw [if_pos ((vc_gt x p.2).2 h3), show gstep M T p x = (true, x) from by unfold gstep; rw [if_pos ⟨⟨h0, h1⟩, .inr h3⟩]]
            exact next (true, x)
          · rw [if_neg (fun h => h3 ((vc_gt x p.2).1 h)), show gstep M T p x = p from by unfold gstep; rw [if_neg (fun h => h.2.elim (fun e => by rw [h2] at e; cases e) h3)]]
            exact next p
        · rw [if_neg h2, show gstep M T p x = (true, x) from by unfold gstep; rw [if_pos ⟨⟨h0, h1⟩, .inl (by simpa using h2)⟩]]
          exact next (true, x)
      · rw [if_neg (fun h => h1 ((vc_ge x T).1 h)), show gstep M T p x = p from by unfold gstep; rw [if_neg (fun h => h1 h.1.2)]]
        exact next p
    · rw [if_neg h0, show gstep M T p x = p from by unfold gstep; rw [if_neg (fun h => h0 h.1.1)]]
      exact next p
def BestIs (M : Int) (T : S44) (P : List S44) (p : Bool × S44) : Prop :=
  (p = (false, ⟨0, 0, 0⟩) ∧ ∀ x ∈ P, ¬ QB M T x) ∨ (∃ y ∈ P, QB M T y ∧ p = (true, y) ∧ ∀ x ∈ P, QB M T x → vlt y x = false)
theorem best_eq {M : Int} {T : S44} {P Q : List S44} (hm : ∀ x, x ∈ P ↔ x ∈ Q) {p q : Bool × S44} (hp : BestIs M T P p) (hq : BestIs M T Q q) : p = q := by
  rcases hp with ⟨rfl, h1⟩ | ⟨y, hy, qy, rfl, h1⟩
  · rcases hq with ⟨rfl, h2⟩ | ⟨z, hz, qz, rfl, h2⟩
    · rfl
    · exact absurd qz (h1 z ((hm z).2 hz))
  · rcases hq with ⟨rfl, h2⟩ | ⟨z, hz, qz, rfl, h2⟩
    · exact absurd qy (h2 y ((hm y).1 hy))
    · rw [vlt_total y z (h1 z ((hm z).2 hz) qz) (h2 y ((hm y).1 hy) qy)]
theorem best_fold {M : Int} {T : S44} : ∀ (rest P : List S44) (p : Bool × S44), BestIs M T P p → BestIs M T (P ++ rest) (rest.foldl (gstep M T) p)
  | [], P, p, h => by simpa using h
  | x :: rest, P, p, h => by
    rw [List.foldl_cons, show P ++ x :: rest = (P ++ [x]) ++ rest by simp]
    refine best_fold rest _ _ ?_
    unfold gstep
    have memP : ∀ z ∈ P ++ [x], z ∈ P ∨ z = x := fun z hz => by simpa using hz
    rcases h with ⟨rfl, h1⟩ | ⟨y, hy, qy, rfl, h1⟩
    · by_cases hq : QB M T x
      · rw [if_pos ⟨hq, .inl rfl⟩]
        refine .inr ⟨x, by simp, hq, rfl, fun z hz qz => ?_⟩
        rcases memP z hz with hz | rfl
        · exact absurd qz (h1 z hz)
        · exact vlt_swo.irrefl _
      · rw [if_neg (fun h => hq h.1)]
        refine .inl ⟨rfl, fun z hz qz => ?_⟩
        rcases memP z hz with hz | rfl
        · exact h1 z hz qz
        · exact hq qz
    · by_cases hq : QB M T x ∧ vlt y x = true
      · rw [if_pos ⟨hq.1, .inr hq.2⟩]
        refine .inr ⟨x, by simp, hq.1, rfl, fun z hz qz => ?_⟩
        rcases memP z hz with hz | rfl
        · rcases e : vlt x z with _ | _
          · rfl
          · have := vlt_swo.trans _ _ _ hq.2 e
            rw [h1 z hz qz] at this; cases this
        · exact vlt_swo.irrefl _
      · rw [if_neg (fun h => hq ⟨h.1, h.2.elim (fun e => by cases e) id⟩)]
        refine .inr ⟨y, by simp [hy], qy, rfl, fun z hz qz => ?_⟩
        rcases memP z hz with hz | rfl
        · exact h1 z hz qz
        · rcases e : vlt y z with _ | _
          · rfl
          · exact absurd ⟨qz, e⟩ hq
theorem rbest_loop (S : List S44) (T : S44) (M : Int) (hS : Strict S) (hl : S.length ≤ 1000) : ∀ (n k : Nat), n ≤ S.length → (∀ x ∈ S.drop n, ¬ QB M T x) → n + 1 ≤ k →
    ∃ p, BestIs M T S p ∧ touchstoneref05_Best.l0 k M S ((n : Int) - 1) T.f0 T.f1 T.f2 = some (p.2.f0, p.2.f1, p.2.f2, p.1) := by
  intro n
  induction n with
  | zero =>
    intro k hn hno hk
    obtain ⟨k, rfl⟩ : ∃ q, k = q + 1 := ⟨k - 1, by omega⟩
    refine ⟨(false, ⟨0, 0, 0⟩), .inl ⟨rfl, by simpa using hno⟩, ?_⟩
    rw [touchstoneref05_Best.l0, if_neg (by omega)]
  | succ n ih =>
    intro k hn hno hk
    obtain ⟨k, rfl⟩ : ∃ q, k = q + 1 := ⟨k - 1, by omega⟩
    have hd := rd_drop S n (by omega)
    have en : ((n + 1 : Nat) : Int) - 1 = (n : Int) := by omega
    rw [en, touchstoneref05_Best.l0, if_pos (by omega), if_pos (by omega), if_pos (by omega), less_f, show wrap64 ((n : Int) - 1) = (n : Int) - 1 from w64b (by omega) (by omega)]
    have hin : rd_T44 S (n : Int) ∈ S := List.mem_of_mem_drop (i := n) (by rw [hd]; simp)
    by_cases hq : QB M T (rd_T44 S (n : Int))
    · refine ⟨(true, rd_T44 S (n : Int)), .inr ⟨_, hin, hq, rfl, fun x hx qx => ?_⟩, ?_⟩
      · have hs : Strict (S.take n ++ S.drop n) := by rw [List.take_append_drop]; exact hS
        rw [← List.take_append_drop n S, List.mem_append] at hx
        rcases hx with hx | hx
        · have := (List.pairwise_append.1 hs).2.2 x hx (rd_T44 S (n : Int)) (by rw [hd]; simp)
          rcases e : vlt (rd_T44 S (n : Int)) x with _ | _
          · rfl
          · have h2 := vlt_swo.trans _ _ _ this e
            rw [vlt_swo.irrefl] at h2; cases h2
        · rw [hd] at hx
          rcases List.mem_cons.1 hx with rfl | hx
          · exact vlt_swo.irrefl _
          · exact absurd qx (hno x hx)
      · rw [if_pos hq.1, Option.bind_some, if_neg (by rw [hq.2]; decide)]
    · have hno' : ∀ x ∈ S.drop n, ¬ QB M T x := fun x hx => by
        rw [hd] at hx
        rcases List.mem_cons.1 hx with rfl | hx
        · exact hq
        · exact hno x hx
      obtain ⟨p, h1, h2⟩ := ih k (by omega) hno' (by omega)
      refine ⟨p, h1, ?_⟩
      by_cases h0 : (rd_T44 S (n : Int)).f0 = M
      · rw [if_pos h0, Option.bind_some, if_pos (by rcases e : vlt (rd_T44 S (n : Int)) T with _ | _
                                                    · exact absurd ⟨h0, e⟩ hq
                                                    · rfl)]
        exact h2
      · rw [if_neg h0]
        exact h2
theorem sorts_ex (l : List S44) (a b c g : Int) : ∃ k, touchstonelaw05_SemverSorts.f k l a b c g = some true := by
  refine ⟨9000, ?_⟩
  unfold touchstonelaw05_SemverSorts.f
  by_cases h60 : (l.length : Int) > 60
  · rw [if_pos h60, alive_true]; rfl
  · have hl : l.length ≤ 60 := by omega
    have ha := around_f l ⟨a, b, c⟩ (by omega) 8999 (by decide)
    have hb := raround_f l ⟨a, b, c⟩ hl 8999 (by decide)
    simp only [] at ha hb
    have hs := rsorted_f l hl 8999 (by decide)
    have hs1 : semver_Sorted.f l = some (srt l) := by unfold semver_Sorted.f srt; rw [if_pos (by omega)]
    have hsl := srt_len l
    have hinv := ainv_around l ⟨a, b, c⟩
    have g1 := best_loop l ⟨a, b, c⟩ g (by omega) l.length 0 8999 (false, ⟨0, 0, 0⟩) (by omega) (by omega)
    have g2 := best_fold (M := g) (T := ⟨a, b, c⟩) l [] (false, ⟨0, 0, 0⟩) (.inl ⟨rfl, by simp⟩)
    rw [List.nil_append] at g2
    obtain ⟨p, r1, r2⟩ := rbest_loop (srt l) ⟨a, b, c⟩ g (srt_strict l) (by omega) (srt l).length 8999 (Nat.le_refl _) (by simp) (by omega)
    have ep := best_eq (fun x => (srt_mem x l).symm) g2 r1
    rw [show ((0 : Nat) : Int) = 0 from rfl, List.drop_zero, ep] at g1
    simp only [] at g1 r2
    have hB : semver_Best.f 8999 g a b c l = some (p.2.f0, p.2.f1, p.2.f2, p.1) := by unfold semver_Best.f; exact g1
    have hR : touchstoneref05_Best.f 8999 g a b c l = some (p.2.f0, p.2.f1, p.2.f2, p.1) := by
      unfold touchstoneref05_Best.f
      rw [hs, Option.bind_some, show wrap64 (((srt l).length : Int) - 1) = ((srt l).length : Int) - 1 from w64b (by omega) (by omega)]
      exact r2
    rw [if_neg h60, touchstonelaw05_SemverSorts.j0, ha, hb, hB, hR, hs, hs1]
    simp only [Option.bind_some]
    rw [same_f _ (by omega) 8999 (by omega), same_f _ (by have := hinv.bl; omega) 8999 (by have := hinv.bl; omega), same_f _ (by have := hinv.al; omega) 8999 (by have := hinv.al; omega)]
    simp [alive_true]
end Go.Proofs.YtaikpnenegifnaaGreatDoor
