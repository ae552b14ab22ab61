import Derived.Test.YtaikpnenegifnaaGreatDoorXLx13
import Derived.Test.YtaikpnenegifnaaGreatDoorG14
/- The law LexPlaces' printed answer is true, in plain Lean; no program in sight. -/
namespace Go.Proofs.YtaikpnenegifnaaGreatDoor
set_option linter.unusedSimpArgs false
set_option linter.unusedVariables false
open Go.RowKit Go.Proofs.YtaikpnenegifnaaGreatDoorW.PrintWords Go.Proofs.YtaikpnenegifnaaGreatDoor.XL

theorem blankM_take : ∀ (l : List UInt8) (s : Bool), blankM s (l.take (blankM s l)) = blankM s l
  | [], s => by rw [blankM_nil, List.take_nil, blankM_nil]
  | c :: r, true => by
    have ih := blankM_take r (c != 10)
    have e : blankM true (c :: r) = blankM (c != 10) r + 1 := rfl
    rw [e, List.take_succ_cons]
    show blankM (c != 10) _ + 1 = _
    rw [ih]
  | c :: r, false => by
    have i1 := blankM_take r false
    have i2 := blankM_take r true
    have e : blankM false (c :: r) = if c = 32 ∨ c = 9 ∨ c = 10 then blankM false r + 1 else if c = 45 ∧ r.headD 0 = 45 then blankM true r + 1 else 0 := by rw [blankM]
    rw [e]
    by_cases h1 : c = 32 ∨ c = 9 ∨ c = 10
    · rw [if_pos h1, List.take_succ_cons, blankM, if_pos h1, i1]
    · rw [if_neg h1]
      by_cases h2 : c = 45 ∧ r.headD 0 = 45
      · rw [if_pos h2, List.take_succ_cons]
        have h3 : (r.take (blankM true r)).headD 0 = 45 := by
          cases r with
          | nil => exact h2.2
          | cons b q =>
            have e2 : blankM true (b :: q) = blankM (b != 10) q + 1 := rfl
            rw [e2, List.take_succ_cons]
            exact h2.2
        rw [blankM, if_neg h1, if_pos ⟨h2.1, h3⟩, i2]
      · rw [if_neg h2, List.take_zero, blankM_nil]
theorem stop_blank (l : List UInt8) : Stop (l.take (blankM false l)) := by
  cases l with
  | nil => rw [List.take_nil]; exact stop_nil
  | cons c r =>
    rw [blankM]
    by_cases h1 : c = 32 ∨ c = 9 ∨ c = 10
    · rw [if_pos h1, List.take_succ_cons]
      exact stop_cons (h1.elim .inl (fun e => e.elim (fun e => .inr (.inl e)) (fun e => .inr (.inr (.inl e)))))
    · rw [if_neg h1]
      by_cases h2 : c = 45 ∧ r.headD 0 = 45
      · rw [if_pos h2, List.take_succ_cons]
        exact stop_cons (.inr (.inr (.inr h2.1)))
      · rw [if_neg h2, List.take_zero]; exact stop_nil
/-- One token and the blanks after it, lexed alone. -/
theorem source_seg {D : List UInt8} {t : TokL} {n : Nat} (h : oneL D = some (t, n)) : sourceL (D.take (n + blankM false (D.drop n))) = some [(t, 0)] := by
  obtain ⟨o1, o2, o3, o4⟩ := one_told h
  obtain ⟨b, hb⟩ : ∃ b, blankM false (D.drop n) = b := ⟨_, rfl⟩
  have hbt := blankM_take (D.drop n) false
  have hst := stop_blank (D.drop n)
  rw [hb] at hbt hst ⊢
  have hseg : D.take (n + b) = toldL t ++ (D.drop n).take b := by rw [List.take_add, o1]
  have hlen : (toldL t).length = n := by rw [← o1, List.length_take]; omega
  have hone : oneL (D.take (n + b)) = some (t, n) := by rw [hseg]; exact o4 _ hst
  obtain ⟨S, hS⟩ : ∃ S, D.take (n + b) = S := ⟨_, rfl⟩
  have hd1 : S.drop n = (D.drop n).take b := by rw [← hS, hseg, ← hlen, List.drop_left' rfl]
  have hd2 : S.drop (n + b) = [] := by rw [← hS]; simp
  rw [hS] at hone ⊢
  unfold sourceL
  rw [blank_of_one hone, List.drop_zero]
  cases S with
  | nil => simp [oneL] at hone
  | cons c r =>
    rw [List.length_cons, lexL, hone]
    simp only []
    rw [hd1, hbt, hd2, lexL]
    rfl
theorem source_first (L : List UInt8) : sourceL (L.take (blankM false L)) = some [] := by
  have h := blankM_take L false
  unfold sourceL
  rw [h]
  have : (L.take (blankM false L)).drop (blankM false L) = [] := by simp
  rw [this, lexL]
theorem rd_mk {ts : List (TokL × Nat)} {j : Nat} (h : j < ts.length) : rd_T32 (ts.map mkTok) (j : Int) = mkTok ts[j] := by
  rw [rd_at (by rw [List.length_map]; exact h), List.getElem_map]
theorem lexL_head {f p : Nat} {l : List UInt8} {x : TokL × Nat} {ts : List (TokL × Nat)} (h : lexL f p l = some (x :: ts)) : x.2 = p ∧ ∃ n f', oneL l = some (x.1, n) ∧ lexL f' (p + (n + blankM false (l.drop n))) (l.drop (n + blankM false (l.drop n))) = some ts := by
  cases l with
  | nil => rw [lexL] at h; cases h
  | cons c r =>
    cases f with
    | zero => rw [lexL] at h; cases h
    | succ f =>
      rw [lexL] at h
      split at h
      · cases h
      · rename_i t n ho
        rw [Option.map_eq_some_iff] at h
        obtain ⟨ts', h', he⟩ := h
        obtain ⟨rfl, rfl⟩ := List.cons.inj he
        exact ⟨rfl, n, f, ho, h'⟩
theorem lexL_end {f p : Nat} {l : List UInt8} (h : lexL f p l = some []) : l = [] := by
  cases l with
  | nil => rfl
  | cons c r =>
    cases f with
    | zero => rw [lexL] at h; cases h
    | succ f =>
      rw [lexL] at h
      split at h
      · cases h
      · rw [Option.map_eq_some_iff] at h
        obtain ⟨ts', h', he⟩ := h
        cases he
theorem places_step {L : List UInt8} (hL : L.length ≤ 3000) {p n b q : Nat} {t : TokL} (ho : oneL (L.drop p) = some (t, n)) (hb : blankM false ((L.drop p).drop n) = b) (hq : q = p + (n + b)) (hp : p ≤ L.length) (x3 x30 : List (S32)) (x31 : Int) (j k : Nat) (hk : 2300003 ≤ k) (hj : j ≤ 100000) :
    q ≤ L.length ∧ touchstonelaw06_LexPlaces.j1 (k + 2) (B L) x3 (q : Int) x30 x31 (j : Int) t.1 (B t.2.1) t.2.2 (p : Int) = touchstonelaw06_LexPlaces.l0 k (B L) x3 x30 x31 ((j + 1 : Nat) : Int) := by
  obtain ⟨o1, o2, o3, o4⟩ := one_told ho
  have hbl := blankM_le ((L.drop p).drop n) false
  rw [hb, List.length_drop, List.length_drop] at hbl
  rw [List.length_drop] at o3
  have hseg := source_seg ho
  rw [hb] at hseg
  refine ⟨by omega, ?_⟩
  rw [touchstonelaw06_LexPlaces.j1, if_neg (by omega), if_neg (by omega), decide_eq_false (by rw [sz_B]; omega), touchstonelaw06_LexPlaces.j2, if_neg (by decide), if_pos (by omega), if_pos (by omega), if_pos (by rw [sz_B]; omega), Int.toNat_natCast, Int.toNat_natCast, ex_B, show q - p = n + b by omega, lex_some (by rw [List.length_take, List.length_drop]; omega) hseg (by simp) k (by omega), Option.bind_some]
  simp only [show touchstonelaw01_No.f 0 = some 0 from rfl, Option.bind_some]
  rw [if_pos (by simp), same_f _ _ (by simp) k (by omega), Option.bind_some, if_pos (by simp [tokOf, mkTok, B]), if_pos (by simp), if_pos (show (rd_T32 (List.map mkTok [(t, 0)]) 0).f3 = 0 from rfl), wadd1 (by omega)]
theorem places_last {L : List UInt8} {ts : List (TokL × Nat)} (hL : L.length ≤ 3000) (hsrc : sourceL L = some ts) (k : Nat) (hk : 2300003 ≤ k) (x32 : Int) (hx : ¬ x32 < (ts.length : Int)) :
    touchstonelaw06_LexPlaces.l0 (k + 1) (B L) (ts.map mkTok) (ts.map mkTok) (ts.length : Int) x32 = some true := by
  rw [touchstonelaw06_LexPlaces.l0, if_neg hx]
  have hal := alive_f k (by omega)
  cases ts with
  | nil =>
    rw [if_neg (by simp), if_pos (by omega), if_pos (Int.le_refl _), Int.toNat_natCast, ex_end, List.drop_zero, lex_some (by omega) hsrc (by simp) k (by omega), Option.bind_some]
    simp only [show touchstonelaw01_No.f 0 = some 0 from rfl, Option.bind_some]
    rw [if_pos (by simp), if_pos (by simp), hal]
    rfl
  | cons x ts =>
    have hx2 := (lexL_head hsrc).1
    have hbl := blankM_le L false
    have e3 : (rd_T32 ((x :: ts).map mkTok) 0).f3 = ((blankM false L : Nat) : Int) := by rw [← hx2]; rfl
    rw [e3, if_pos (by simp), if_pos (by simp), if_pos (by omega), if_pos (by rw [sz_B]; omega), Int.toNat_natCast, ex_0, lex_some (by rw [List.length_take]; omega) (source_first L) (by simp) k (by omega), Option.bind_some]
    simp only [show touchstonelaw01_No.f 0 = some 0 from rfl, Option.bind_some]
    rw [if_pos (by simp), if_pos (by simp), hal]
    rfl
theorem places_loop {L : List UInt8} {ts : List (TokL × Nat)} (hL : L.length ≤ 3000) (hsrc : sourceL L = some ts) : ∀ (suf : List (TokL × Nat)) (j p f k : Nat), ts.drop j = suf → lexL f p (L.drop p) = some suf → p ≤ L.length → 2300010 + 3 * suf.length ≤ k →
    touchstonelaw06_LexPlaces.l0 k (B L) (ts.map mkTok) (ts.map mkTok) (ts.length : Int) j = some true
  | [], j, p, f, k, hd, hl, hp, hk => by
    obtain ⟨k, rfl⟩ : ∃ q, k = q + 1 := ⟨k - 1, by omega⟩
    have hj : ts.length ≤ j := by
      have := congrArg List.length hd
      rw [List.length_drop, List.length_nil] at this
      omega
    exact places_last hL hsrc k (by simp at hk; omega) _ (by omega)
  | x :: suf, j, p, f, k, hd, hl, hp, hk => by
    rw [List.length_cons] at hk
    obtain ⟨k, rfl⟩ : ∃ q, k = q + 3 := ⟨k - 3, by omega⟩
    have htl := sourceL_len hsrc
    have hj : j < ts.length := by
      rcases Nat.lt_or_ge j ts.length with h | h
      · exact h
      · rw [List.drop_of_length_le h] at hd; cases hd
    have hcons := List.drop_eq_getElem_cons hj
    rw [hd] at hcons
    obtain ⟨hx, hsuf⟩ := List.cons.inj hcons
    obtain ⟨hp2, n, f', ho, h'⟩ := lexL_head hl
    obtain ⟨b, hb⟩ : ∃ b, blankM false ((L.drop p).drop n) = b := ⟨_, rfl⟩
    rw [hb, List.drop_drop] at h'
    obtain ⟨hq, hstep⟩ := places_step hL ho hb rfl hp (ts.map mkTok) (ts.map mkTok) (ts.length : Int) j k (by omega) (by omega)
    have ih := places_loop hL hsrc suf (j + 1) (p + (n + b)) f' k hsuf.symm h' hq (by omega)
    have hrd : rd_T32 (ts.map mkTok) (j : Int) = mkTok x := by rw [rd_mk hj, ← hx]
    have g0 : (mkTok x).f0 = x.1.1 := rfl
    have g1 : (mkTok x).f1 = B x.1.2.1 := rfl
    have g2 : (mkTok x).f2 = x.1.2.2 := rfl
    have g3 : (mkTok x).f3 = (p : Int) := by rw [← hp2]; rfl
    rw [touchstonelaw06_LexPlaces.l0, if_pos (by omega), if_pos (by omega), if_pos (by rw [List.length_map]; omega), wadd1 (by omega), hrd, g0, g1, g2, g3]
    by_cases hn : j + 1 < ts.length
    · have hs2 := List.drop_eq_getElem_cons hn
      rw [← hsuf] at hs2
      have hp3 : (ts[j + 1]).2 = p + (n + b) := by
        rw [hs2] at h'
        exact (lexL_head h').1
      have e3 : (rd_T32 (ts.map mkTok) ((j + 1 : Nat) : Int)).f3 = ((p + (n + b) : Nat) : Int) := by rw [rd_mk hn, ← hp3]; rfl
      rw [if_pos (by rw [List.length_map]; omega), if_pos (by omega), e3, hstep]
      exact ih
    · have hs0 : suf = [] := by rw [hsuf]; exact List.drop_of_length_le (by omega)
      rw [hs0] at h'
      have hend := congrArg List.length (lexL_end h')
      rw [List.length_drop, List.length_nil] at hend
      rw [if_neg (by rw [List.length_map]; omega), sz_B, show L.length = p + (n + b) by omega, hstep]
      exact ih
theorem places_ex (s : ByteArray) : ∃ k, touchstonelaw06_LexPlaces.f k s = some true := by
  refine ⟨2400000, ?_⟩
  unfold touchstonelaw06_LexPlaces.f
  have hal := alive_f 2400000 (by decide)
  by_cases hs : (s.size : Int) > 3000
  · rw [if_pos hs, hal]; rfl
  rw [if_neg hs]
  obtain ⟨L, rfl⟩ : ∃ L, s = B L := ⟨_, B_of s⟩
  rw [sz_B] at hs
  cases hsrc : sourceL L with
  | none =>
    obtain ⟨p, e, hL, he⟩ := lex_none (by omega) hsrc 2400000 (by decide)
    rw [hL, Option.bind_some, show touchstonelaw01_No.f e = some e from rfl, Option.bind_some, if_neg (by omega), hal]
    rfl
  | some ts =>
    have htl := sourceL_len hsrc
    rw [lex_some (by omega) hsrc (by omega) 2400000 (by decide), Option.bind_some]
    simp only [show touchstonelaw01_No.f 0 = some 0 from rfl, Option.bind_some]
    rw [if_pos (by simp), List.length_map]
    exact places_loop (by omega) hsrc ts 0 (blankM false L) L.length 2400000 List.drop_zero hsrc (blankM_le L false) (by omega)
end Go.Proofs.YtaikpnenegifnaaGreatDoor
