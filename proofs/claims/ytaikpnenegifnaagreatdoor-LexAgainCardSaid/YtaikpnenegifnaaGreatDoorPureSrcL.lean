import Derived.Test.YtaikpnenegifnaaGreatDoorG14
/- What is told is lexed to the same tokens; what is lexed may be told; in plain Lean, no program in sight. -/
namespace Go.Proofs.YtaikpnenegifnaaGreatDoor
set_option linter.unusedSimpArgs false
set_option linter.unusedVariables false
open Go.RowKit Go.Proofs.YtaikpnenegifnaaGreatDoorW.PrintWords Go.Proofs.YtaikpnenegifnaaGreatDoor.XL

theorem one_rng {l t : List UInt8} {kd n : Int} {m : Nat} (h : oneL l = some ((kd, t, n), m)) : -999999999999999999 ≤ n ∧ n ≤ 999999999999999999 := by
  by_cases h4 : kd = 4
  · subst h4; exact one_kind4 h
  · have z : n = 0 → -999999999999999999 ≤ n ∧ n ≤ 999999999999999999 := fun e => by omega
    cases l with
    | nil => simp [oneL] at h
    | cons c r =>
      rw [oneL] at h
      split at h
      · unfold nameL at h
        split at h
        · cases h
        · simp only [Option.some.injEq, Prod.mk.injEq] at h
          exact z h.1.2.2.symm
      · split at h
        · unfold varL at h
          split at h
          · cases h
          · simp only [Option.some.injEq, Prod.mk.injEq] at h
            exact z h.1.2.2.symm
        · split at h
          · split at h
            · split at h
              · simp only [Option.some.injEq, Prod.mk.injEq] at h
                exact z h.1.2.2.symm
              · cases h
            · cases h
          · split at h
            · split at h
              · simp only [Option.some.injEq, Prod.mk.injEq] at h
                exact z h.1.2.2.symm
              · unfold negL at h
                split at h
                · split at h
                  · cases h
                  · simp only [Option.some.injEq, Prod.mk.injEq] at h
                    exact absurd h.1.1.symm h4
                · cases h
            · split at h
              · unfold numTokL at h
                split at h
                · simp only [Option.some.injEq, Prod.mk.injEq] at h
                  exact z h.1.2.2.symm
                · rw [Option.map_eq_some_iff] at h
                  obtain ⟨⟨v, q⟩, hi, he⟩ := h
                  simp only [Prod.mk.injEq] at he
                  exact absurd he.1.1.symm h4
              · split at h
                · simp only [Option.some.injEq, Prod.mk.injEq] at h
                  exact z h.1.2.2.symm
                · cases h
/-- No blank and no remark stands where a token begins. -/
theorem blank_of_one {l : List UInt8} {t : TokL} {m : Nat} (h : oneL l = some (t, m)) : blankM false l = 0 := by
  cases l with
  | nil => simp [oneL] at h
  | cons c r =>
    rw [blankM]
    by_cases h1 : c = 32 ∨ c = 9 ∨ c = 10
    · exfalso
      rw [oneL] at h
      rcases h1 with e | e | e <;> subst e
      · rw [if_neg (by decide), if_neg (by decide), if_neg (by decide), if_neg (by decide), if_neg (by decide), if_neg (by decide)] at h
        cases h
      · rw [if_neg (by decide), if_neg (by decide), if_neg (by decide), if_neg (by decide), if_neg (by decide), if_neg (by decide)] at h
        cases h
      · rw [if_neg (by decide), if_neg (by decide), if_neg (by decide), if_neg (by decide), if_neg (by decide), if_neg (by decide)] at h
        cases h
    · rw [if_neg h1]
      by_cases h2 : c = 45 ∧ r.headD 0 = 45
      · exfalso
        obtain ⟨rfl, h2⟩ := h2
        have hD : r.takeWhile isD = [] := by
          cases r with
          | nil => rfl
          | cons b q =>
            have : b = 45 := h2
            subst this
            rw [List.takeWhile_cons_of_neg (by decide)]
        rw [oneL, if_neg (by decide), if_neg (by decide), if_neg (by decide), if_pos rfl, h2, if_neg (by decide)] at h
        unfold negL intL at h
        rw [if_pos (.inl hD)] at h
        cases h
      · rw [if_neg h2]
theorem right_one {t : TokL} (h : rightL t = true) : oneL (toldL t) = some (t, (toldL t).length) := by
  unfold rightL at h
  exact (of_decide_eq_true h).2.2.2.2
theorem tell_cons (t : TokL) (ts : List TokL) : tellL (t :: ts) = toldL t ++ (if ts = [] then [] else 32 :: tellL ts) := by
  unfold tellL
  cases ts with
  | nil => simp [Lib.join_one]
  | cons u us =>
    rw [if_neg (by simp)]
    simp only [List.map_cons]
    rw [Lib.join_cons, Lib.join_cons]
    simp [Lib.joinTail]
theorem tell_one {t : TokL} {ts : List TokL} (h : rightL t = true) : oneL (tellL (t :: ts)) = some (t, (toldL t).length) := by
  obtain ⟨-, -, -, o4⟩ := one_told (right_one h)
  rw [tell_cons]
  refine o4 _ ?_
  split
  · exact stop_nil
  · exact stop_cons (.inl rfl)
/-- Tokens that may be told are lexed out of what is told of them. -/
theorem lex_tell : ∀ (ts : List TokL) (f p : Nat), (∀ t ∈ ts, rightL t = true) → (tellL ts).length ≤ f → ∃ qs, lexL f p (tellL ts) = some qs ∧ qs.map (·.1) = ts
  | [], f, p, _, _ => ⟨[], by show lexL f p [] = some []; rw [lexL], rfl⟩
  | t :: ts, f, p, hr, hf => by
    have ho := tell_one (ts := ts) (hr t (by simp))
    obtain ⟨o1, o2, o3, o4⟩ := one_told ho
    obtain ⟨f, rfl⟩ : ∃ q, f = q + 1 := ⟨f - 1, by omega⟩
    obtain ⟨c, r, hcr⟩ : ∃ c r, tellL (t :: ts) = c :: r := by
      cases hq : tellL (t :: ts) with
      | nil => rw [hq, List.length_nil] at o3; omega
      | cons c r => exact ⟨c, r, rfl⟩
    have hdrop : (c :: r).drop (toldL t).length = if ts = [] then [] else 32 :: tellL ts := by
      rw [← hcr, tell_cons, List.drop_left' rfl]
    have hlen : (tellL (t :: ts)).length = (toldL t).length + (if ts = [] then [] else 32 :: tellL ts).length := by rw [tell_cons, List.length_append]
    rw [hcr] at ho ⊢
    rw [lexL, ho]
    simp only []
    rw [hdrop]
    cases ts with
    | nil =>
      rw [if_pos rfl, blankM_nil, Nat.add_zero, hdrop, if_pos rfl, lexL]
      exact ⟨_, rfl, rfl⟩
    | cons u us =>
      rw [if_neg (by simp)] at hdrop hlen
      rw [if_neg (by simp)]
      have hb : blankM false (32 :: tellL (u :: us)) = 1 := by
        rw [blankM, if_pos (.inl rfl), blank_of_one (tell_one (ts := us) (hr u (by simp)))]
      have hdd : (c :: r).drop ((toldL t).length + 1) = tellL (u :: us) := by rw [← List.drop_drop, hdrop]; rfl
      rw [hb, hdd]
      obtain ⟨qs, h1, h2⟩ := lex_tell (u :: us) f (p + ((toldL t).length + 1)) (fun x hx => hr x (by simp [hx])) (by simp only [List.length_cons] at hlen; omega)
      rw [h1]
      exact ⟨_, rfl, by simp [h2]⟩
theorem source_tell {ts : List TokL} (hr : ∀ t ∈ ts, rightL t = true) : ∃ qs, sourceL (tellL ts) = some qs ∧ qs.map (·.1) = ts := by
  have hb : blankM false (tellL ts) = 0 := by
    cases ts with
    | nil => rfl
    | cons t ts => exact blank_of_one (tell_one (hr t (by simp)))
  unfold sourceL
  rw [hb, List.drop_zero]
  exact lex_tell ts _ 0 hr (Nat.le_refl _)
/-- What is lexed may be told, and takes no more than it took. -/
theorem lexL_told : ∀ (f p : Nat) (l : List UInt8) (ts : List (TokL × Nat)), lexL f p l = some ts → (∀ x ∈ ts, ∃ l' m, oneL l' = some (x.1, m)) ∧ ((ts.map fun x => (toldL x.1).length).sum ≤ l.length)
  | f, p, [], ts, h => by
    rw [lexL] at h
    obtain rfl := Option.some.inj h
    exact ⟨fun x hx => (by cases hx), by simp⟩
  | 0, p, c :: r, ts, h => by rw [lexL] at h; cases h
  | f + 1, p, c :: r, ts, h => by
    rw [lexL] at h
    split at h
    · cases h
    · rename_i t n ho
      obtain ⟨o1, o2, o3, o4⟩ := one_told ho
      rw [Option.map_eq_some_iff] at h
      obtain ⟨ts', h', rfl⟩ := h
      obtain ⟨i1, i2⟩ := lexL_told f _ _ ts' h'
      rw [List.length_drop] at i2
      have hl := (right_of_one ho).2
      have hb := blankM_le ((c :: r).drop n) false
      rw [List.length_drop] at hb
      refine ⟨fun x hx => ?_, ?_⟩
      · rcases List.mem_cons.1 hx with rfl | hx
        · exact ⟨_, _, ho⟩
        · exact i1 x hx
      · simp only [List.map_cons, List.sum_cons]
        omega
theorem source_told {L : List UInt8} {ts : List (TokL × Nat)} (h : sourceL L = some ts) : (∀ x ∈ ts, ∃ l' m, oneL l' = some (x.1, m)) ∧ ((ts.map fun x => (toldL x.1).length).sum ≤ L.length) := by
  obtain ⟨h1, h2⟩ := lexL_told _ _ _ _ h
  rw [List.length_drop] at h2
  exact ⟨h1, by omega⟩
theorem ok_mk {x : TokL × Nat} {l : List UInt8} {m : Nat} (h : oneL l = some (x.1, m)) : okTok (mkTok x) := by
  obtain ⟨⟨kd, t, n⟩, p⟩ := x
  obtain ⟨k1, k2, k3⟩ := one_kind h
  have hr := one_rng h
  exact ⟨by show (B t).size ≤ 100000; rw [sz_B]; omega, by show -9223372036854775808 ≤ n; omega, by show n ≤ 9223372036854775807; omega⟩
end Go.Proofs.YtaikpnenegifnaaGreatDoor
