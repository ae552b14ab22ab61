/- semver.Parse, in plain Lean: its answer is what PureDig's plain function says (as the reference's); no program in sight. -/
import Derived.Test.YtaikpnenegifnaaDoorHParse
import Derived.Test.YtaikpnenegifnaaDoorPureNum
import Derived.Lib.CountLaws
namespace Go.Proofs.YtaikpnenegifnaaDoor
set_option linter.unusedSimpArgs false
set_option linter.unusedVariables false
open Go.RowKit Go.Proofs.YtaikpnenegifnaaDoorW.PrintWords Go.Proofs.YtaikpnenegifnaaDoor.XM

theorem bs_eq (s : ByteArray) : (⟨s.data.toList.toArray⟩ : ByteArray) = s := by cases s; simp
theorem bs_of {s : ByteArray} {l : List UInt8} (h : s.data.toList = l) : s = ⟨l.toArray⟩ := by rw [← h, bs_eq]

theorem index_hit : ∀ (D r : List UInt8) (c : UInt8), c ∉ D → Lib.index (D ++ c :: r) [c] = (D.length : Int)
  | [], r, c, _ => by simp [Lib.index, List.isPrefixOf]
  | b :: D, r, c, h => by
    have h1 : c ≠ b := fun e => h (by simp [e])
    have h2 : c ∉ D := fun e => h (by simp [e])
    have ih := index_hit D r c h2
    simp only [List.cons_append, Lib.index, ih]
    have e1 : ([c] : List UInt8).isPrefixOf (b :: (D ++ c :: r)) = false := by simp [List.isPrefixOf, h1]
    rw [e1]
    have e2 : ((D.length : Int) == -1) = false := by simp
    simp [e2]
theorem index_no : ∀ (D : List UInt8) (c : UInt8), c ∉ D → Lib.index D [c] = -1
  | [], c, _ => by simp [Lib.index]
  | b :: D, c, h => by
    have h1 : c ≠ b := fun e => h (by simp [e])
    have h2 : c ∉ D := fun e => h (by simp [e])
    have ih := index_no D c h2
    have e1 : ([c] : List UInt8).isPrefixOf (b :: D) = false := by simp [List.isPrefixOf, h1]
    simp [Lib.index, ih, e1]
theorem dot_not_dec (n : Nat) : (46 : UInt8) ∉ Lib.decDigits n := fun h => by
  have := (decDigits_facts n).1 46 h
  revert this; decide
theorem index_dec (n : Nat) (r : List UInt8) : Lib.index (Lib.decDigits n ++ 46 :: r) [46] = ((Lib.decDigits n).length : Int) := index_hit _ _ _ (dot_not_dec n)
theorem count_vtext (a b c : Nat) : Lib.count (vtext a b c) [46] = 2 := by
  have e1 : Lib.count (vtext a b c) [46] = 1 + Lib.count (Lib.decDigits b ++ 46 :: Lib.decDigits c) [46] := by
    unfold vtext
    rw [Lib.count_hit (by simp) (index_dec a _)]
    congr 2
    simp [← List.drop_drop, List.drop_left']
  have e2 : Lib.count (Lib.decDigits b ++ 46 :: Lib.decDigits c) [46] = 1 + Lib.count (Lib.decDigits c) [46] := by
    rw [Lib.count_hit (by simp) (index_dec b _)]
    congr 2
    simp [← List.drop_drop, List.drop_left']
  rw [e1, e2, Lib.count_miss (index_no _ _ (dot_not_dec c))]
theorem splitK_vtext (a b c : Nat) : Lib.splitK [46] 0 2 (vtext a b c) = [Lib.decDigits a, Lib.decDigits b, Lib.decDigits c] := by
  have i1 := index_dec a (Lib.decDigits b ++ 46 :: Lib.decDigits c)
  have i2 := index_dec b (Lib.decDigits c)
  have n1 : ∀ n : Nat, ((n : Int) == -1) = false := fun n => by simp
  unfold vtext
  simp only [Lib.splitK, i1, n1, i2]
  simp [← List.drop_drop, List.drop_left', i2, n1]

theorem trimS_all {l cs : List UInt8} (h : ∀ b ∈ l, cs.contains b = true) : Lib.trimS l cs = [] := by
  have e : ∀ m : List UInt8, (∀ b ∈ m, cs.contains b = true) → m.dropWhile (cs.contains ·) = [] := by
    intro m
    induction m with
    | nil => intro _; rfl
    | cons b m ih => intro hm; simp only [List.dropWhile, hm b (by simp)]; exact ih (fun x hx => hm x (by simp [hx]))
  unfold Lib.trimS Lib.trimRightS
  rw [e l.reverse (fun b hb => h b (by simpa using hb))]
  rfl
theorem isD_contains {b : UInt8} (h : isD b = true) : ([48, 49, 50, 51, 52, 53, 54, 55, 56, 57] : List UInt8).contains b = true := by
  have h1 := (isD_iff b).1 h
  simp only [List.contains_cons, List.contains_nil, Bool.or_false, Bool.or_eq_true, beq_iff_eq, ← UInt8.toNat_inj, UInt8.reduceToNat]
  omega
theorem okPart_dec {n : Nat} (h : n ≤ 999999) : okPart ⟨(Lib.decDigits n).toArray⟩ = true := by
  unfold okPart
  have h1 := decDigits_len h
  have h2 : Lib.trimS (Lib.decDigits n) [48, 49, 50, 51, 52, 53, 54, 55, 56, 57] = [] := trimS_all fun b hb => isD_contains ((decDigits_facts n).1 b hb)
  have h3 : (⟨(Lib.decDigits n).toArray⟩ : ByteArray).size = (Lib.decDigits n).length := by simp [ByteArray.size]
  simp only [h2, h3]
  simpa using h1
theorem decFrom_val : ∀ (l : List UInt8) (acc : Nat), (∀ b ∈ l, isD b = true) → Lib.decFrom acc l = some (l.foldl valF acc)
  | [], _, _ => rfl
  | b :: l, acc, h => by
    have h1 := (isD_iff b).1 (h b (by simp))
    have ih := decFrom_val l (acc * 10 + (b.toNat - 48)) (fun x hx => h x (by simp [hx]))
    simp only [Lib.decFrom, Lib.digitVal, h1, and_self, if_true, ih, List.foldl_cons]
    congr 2
    unfold valF; omega
theorem atoi_dec (n : Nat) : Lib.atoi (Lib.decDigits n) = some (n : Int) := by
  obtain ⟨i1, i2, i3, -, -⟩ := decDigits_facts n
  have h := decFrom_val _ 0 i1
  rw [show (Lib.decDigits n).foldl valF 0 = n from i3] at h
  cases hl : Lib.decDigits n with
  | nil => exact absurd hl i2
  | cons b r =>
    rw [hl] at h i1
    have hb := (isD_iff b).1 (i1 b (by simp))
    have b1 : (b == 45) = false := by
      rw [beq_eq_false_iff_ne]; intro e; rw [e] at hb; revert hb; decide
    have b2 : (b == 43) = false := by
      rw [beq_eq_false_iff_ne]; intro e; rw [e] at hb; revert hb; decide
    simp [Lib.atoi, b1, b2, Lib.decNat, h]
theorem numPart_dec (n : Nat) : numPart ⟨(Lib.decDigits n).toArray⟩ = (n : Int) := by
  unfold numPart
  simp [atoi_dec]

theorem bs_append (l m : List UInt8) : (⟨l.toArray⟩ : ByteArray) ++ (⟨m.toArray⟩ : ByteArray) = ⟨(l ++ m).toArray⟩ := by
  apply ByteArray.ext
  simp
theorem bs_size (l : List UInt8) : (⟨l.toArray⟩ : ByteArray).size = l.length := by simp [ByteArray.size]
theorem print_f {a b c : Nat} (ha : a ≤ 999999) (hb : b ≤ 999999) (hc : c ≤ 999999) : semver_Print.f a b c = some ⟨(vtext a b c).toArray⟩ := by
  have it : ∀ n : Nat, n ≤ 999999 → strconv_Itoa.f n = some ⟨(Lib.decDigits n).toArray⟩ := fun n hn => by
    unfold strconv_Itoa.f
    rw [if_pos ⟨by omega, by omega⟩, Lib.itoa_nonneg]
  have la := decDigits_len ha
  have lb := decDigits_len hb
  have lc := decDigits_len hc
  have dot : (⟨#[46]⟩ : ByteArray) = ⟨([46] : List UInt8).toArray⟩ := rfl
  unfold semver_Print.f
  rw [right_f, decide_eq_true (by omega)]
  simp only [Option.bind_some, if_true, it a ha, it b hb, it c hc, dot, bs_append, bs_size, List.length_append, List.length_cons, List.length_nil]
  rw [if_pos (by omega), if_pos (by omega), if_pos (by omega), if_pos (by omega)]
  congr 3
  simp [vtext]
theorem print_no {a b c : Int} (h : ¬ (0 ≤ a ∧ a ≤ 999999 ∧ 0 ≤ b ∧ b ≤ 999999 ∧ 0 ≤ c ∧ c ≤ 999999)) : semver_Print.f a b c = some ⟨#[]⟩ := by
  unfold semver_Print.f
  rw [right_f, decide_eq_false h]
  rfl

theorem splitB_vtext {s : ByteArray} {a b c : Nat} (h : s.data.toList = vtext a b c) :
    Lib.splitB ⟨#[46]⟩ 0 (Lib.countB s ⟨#[46]⟩) s = [⟨(Lib.decDigits a).toArray⟩, ⟨(Lib.decDigits b).toArray⟩, ⟨(Lib.decDigits c).toArray⟩] := by
  have hc : Lib.countB s ⟨#[46]⟩ = 2 := by
    show Lib.count s.data.toList [46] = 2
    rw [h, count_vtext]
  have hd := Lib.splitB_data ⟨#[46]⟩ 0 2 s
  rw [hc]
  rw [h] at hd
  rw [show (⟨#[46]⟩ : ByteArray).data.toList = [46] from rfl, splitK_vtext] at hd
  match hm : Lib.splitB ⟨#[46]⟩ 0 2 s, hd with
  | [x, y, z], hd =>
    simp only [List.map_cons, List.map_nil, List.cons.injEq, and_true] at hd
    obtain ⟨h1, h2, h3⟩ := hd
    rw [bs_of h1, bs_of h2, bs_of h3]
  | [], hd => simp at hd
  | [x], hd => simp at hd
  | [x, y], hd => simp at hd
  | x :: y :: z :: u :: v, hd => simp at hd

theorem parse_f (s : ByteArray) (hs : s.size ≤ 1000) : semver_Parse.f s = some (parseR s) := by
  unfold semver_Parse.f
  rw [if_pos (by omega)]
  unfold parseR
  cases hv : verL s.data.toList with
  | some x =>
    obtain ⟨a, b, c⟩ := x
    obtain ⟨hl, ha, hb, hc⟩ := verL_some hv
    rw [splitB_vtext hl]
    simp only [okPart_dec ha, okPart_dec hb, okPart_dec hc, and_self, if_true, numPart_dec, print_f ha hb hc, Option.bind_some]
    rw [if_pos (bs_of hl).symm]
  | none =>
    split
    · rename_i x y z hm
      split
      · by_cases hr : 0 ≤ numPart x ∧ numPart x ≤ 999999 ∧ 0 ≤ numPart y ∧ numPart y ≤ 999999 ∧ 0 ≤ numPart z ∧ numPart z ≤ 999999
        · have hp := print_f (a := (numPart x).toNat) (b := (numPart y).toNat) (c := (numPart z).toNat) (by omega) (by omega) (by omega)
          rw [show (((numPart x).toNat : Nat) : Int) = numPart x by omega, show (((numPart y).toNat : Nat) : Int) = numPart y by omega, show (((numPart z).toNat : Nat) : Int) = numPart z by omega] at hp
          rw [hp, Option.bind_some, if_neg]
          intro e
          rw [← e] at hv
          have := verL_text (a := (numPart x).toNat) (b := (numPart y).toNat) (c := (numPart z).toNat) (by omega) (by omega) (by omega)
          simp only [] at hv
          rw [this] at hv
          cases hv
        · rw [print_no hr, Option.bind_some, if_neg]
          intro e
          rw [← e] at hm
          have h0 : Lib.countB (⟨#[]⟩ : ByteArray) ⟨#[46]⟩ = 0 := by decide
          rw [h0, Lib.splitB_zero] at hm
          cases hm
      · rfl
    · rfl
end Go.Proofs.YtaikpnenegifnaaDoor
