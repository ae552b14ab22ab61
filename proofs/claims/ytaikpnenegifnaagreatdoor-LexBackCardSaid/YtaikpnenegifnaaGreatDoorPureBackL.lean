import Derived.Test.YtaikpnenegifnaaGreatDoorXLx14
import Derived.Test.YtaikpnenegifnaaGreatDoorPureSrcL
/- The law LexBack's printed answer is true, in plain Lean; no program in sight. -/
namespace Go.Proofs.YtaikpnenegifnaaGreatDoor
set_option linter.unusedSimpArgs false
set_option linter.unusedVariables false
open Go.RowKit Go.Proofs.YtaikpnenegifnaaGreatDoorW.PrintWords Go.Proofs.YtaikpnenegifnaaGreatDoor.XL

theorem tell_sum : ∀ (l : List (S32)), (∀ x ∈ l, okTok x) → (tellL (l.map tokOf)).length ≤ 2 * (l.map fun x => x.f1.size).sum + 22 * l.length := by
  intro l hok
  have hj := join_len (l.map fun x => toldL (tokOf x))
  have hs : (((l.map fun x => toldL (tokOf x))).map List.length).sum ≤ 2 * (l.map fun x => x.f1.size).sum + 21 * l.length := by
    clear hj
    induction l with
    | nil => simp
    | cons x l ih =>
      have h1 := told_len x (hok x (by simp))
      have := ih (fun y hy => hok y (by simp [hy]))
      simp only [List.map_cons, List.sum_cons, List.length_cons]
      omega
  unfold tellL
  rw [List.map_map]
  rw [List.length_map] at hj
  refine Nat.le_trans hj ?_
  omega
theorem back_ex (l : List (S32)) (hl : ∀ x ∈ l, rangeTok x) : ∃ k, touchstonelaw06_LexBack.f k l = some true := by
  refine ⟨2400000, ?_⟩
  unfold touchstonelaw06_LexBack.f
  obtain ⟨b, hb, hok⟩ := few_f l 2400000 (by decide)
  rw [hb, Option.bind_some]
  have hal := alive_f 2400000 (by decide)
  cases b with
  | false => rw [if_neg (by decide), hal]; rfl
  | true =>
    obtain ⟨hlen, hsz, hsum⟩ := hok rfl
    have hr : room l := ⟨fun x hx => ⟨by have := hsz x hx; omega, hl x hx⟩, by omega⟩
    rw [if_pos rfl, ltell_f l hr 2400000 (by decide), Option.bind_some]
    by_cases hall : l.all (fun x => rightL (tokOf x)) = true
    · rw [if_pos hall]
      have hts := tell_sum l hr.1
      have hra : ∀ t ∈ l.map tokOf, rightL t = true := by
        intro t ht
        rw [List.mem_map] at ht
        obtain ⟨x, hx, rfl⟩ := ht
        rw [List.all_eq_true] at hall
        exact hall x hx
      obtain ⟨qs, h1, h2⟩ := source_tell hra
      have hql : qs.length = l.length := by
        have := congrArg List.length h2
        simpa using this
      rw [show touchstonelaw01_No.f 0 = some 0 from rfl, Option.bind_some, if_pos rfl, lex_some (by omega) h1 (by omega) 2400000 (by decide), Option.bind_some]
      rw [show touchstonelaw01_No.f 0 = some 0 from rfl, Option.bind_some, if_pos rfl, same_f l _ (by omega) 2400000 (by decide), Option.bind_some, map_tok_mk, h2, decide_eq_true rfl, if_pos rfl, hal]
      rfl
    · rw [if_neg hall]
      rw [show touchstonelaw01_No.f 2 = some 2 from rfl, Option.bind_some, if_neg (by decide), if_pos (by rw [tl_B]), hal]
      rfl
end Go.Proofs.YtaikpnenegifnaaGreatDoor
