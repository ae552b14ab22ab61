import Derived.Test.YtaikpnenegifnaaGreatDoorXLx14
import Derived.Test.YtaikpnenegifnaaGreatDoorPureSrcL
/- The law LexAgain's printed answer is true, in plain Lean; no program in sight. -/
namespace Go.Proofs.YtaikpnenegifnaaGreatDoor
set_option linter.unusedSimpArgs false
set_option linter.unusedVariables false
open Go.RowKit Go.Proofs.YtaikpnenegifnaaGreatDoorW.PrintWords Go.Proofs.YtaikpnenegifnaaGreatDoor.XL

theorem again_ex (s : ByteArray) : ∃ k, touchstonelaw06_LexAgain.f k s = some true := by
  refine ⟨2400000, ?_⟩
  unfold touchstonelaw06_LexAgain.f
  have hal := alive_f 2400000 (by decide)
  by_cases hs : (s.size : Int) > 6000
  · rw [if_pos hs, hal]; rfl
  rw [if_neg hs]
  obtain ⟨L, rfl⟩ : ∃ L, s = B L := ⟨_, B_of s⟩
  rw [sz_B] at hs
  cases hsrc : sourceL L with
  | none =>
    obtain ⟨p, e, hL, he⟩ := lex_none (by omega) hsrc 2400000 (by decide)
    rw [hL, Option.bind_some, show touchstonelaw01_No.f e = some e from rfl, Option.bind_some, if_neg (by omega)]
    show (if ((([] : List (S32)).length : Int)) = 0 then _ else _) = _
    rw [if_pos (by simp), hal]
    rfl
  | some ts =>
    have htl := sourceL_len hsrc
    obtain ⟨h1, h2⟩ := source_told hsrc
    have hok : ∀ x ∈ ts.map mkTok, okTok x := by
      intro x hx
      rw [List.mem_map] at hx
      obtain ⟨y, hy, rfl⟩ := hx
      obtain ⟨l', m, ho⟩ := h1 y hy
      exact ok_mk ho
    have hr : room (ts.map mkTok) := ⟨hok, by rw [List.length_map]; omega⟩
    have hra : ∀ t ∈ ts.map (·.1), rightL t = true := by
      intro t ht
      rw [List.mem_map] at ht
      obtain ⟨y, hy, rfl⟩ := ht
      obtain ⟨l', m, ho⟩ := h1 y hy
      exact (right_of_one ho).1
    have hall : (ts.map mkTok).all (fun x => rightL (tokOf x)) = true := by
      rw [List.all_eq_true]
      intro x hx
      rw [List.mem_map] at hx
      obtain ⟨y, hy, rfl⟩ := hx
      exact hra y.1 (List.mem_map.2 ⟨y, hy, rfl⟩)
    obtain ⟨qs, q1, q2⟩ := source_tell hra
    have hql : qs.length = ts.length := by
      have := congrArg List.length q2
      simpa using this
    have hj := join_len ((ts.map (·.1)).map toldL)
    rw [List.map_map, List.map_map, List.length_map] at hj
    have hlen : (tellL (ts.map (·.1))).length ≤ 12000 := by
      unfold tellL
      rw [List.map_map]
      refine Nat.le_trans hj ?_
      have : (ts.map fun x => (toldL x.1).length).sum = (ts.map (List.length ∘ toldL ∘ fun x => x.1)).sum := rfl
      omega
    have hqok : ∀ x ∈ qs.map mkTok, okTok x := by
      intro x hx
      rw [List.mem_map] at hx
      obtain ⟨y, hy, rfl⟩ := hx
      obtain ⟨l', m, ho⟩ := (source_told q1).1 y hy
      exact ok_mk ho
    have hqr : room (qs.map mkTok) := ⟨hqok, by rw [List.length_map]; omega⟩
    have hqall : (qs.map mkTok).all (fun x => rightL (tokOf x)) = true := by
      rw [List.all_eq_true]
      intro x hx
      rw [List.mem_map] at hx
      obtain ⟨y, hy, rfl⟩ := hx
      obtain ⟨l', m, ho⟩ := (source_told q1).1 y hy
      exact (right_of_one ho).1
    have t1 := ltell_f (ts.map mkTok) hr 2400000 (by decide)
    have t2 := ltell_f (qs.map mkTok) hqr 2400000 (by decide)
    rw [if_pos hall, map_tok_mk] at t1
    rw [if_pos hqall, map_tok_mk, q2] at t2
    rw [lex_some (by omega) hsrc (by omega) 2400000 (by decide), Option.bind_some, show touchstonelaw01_No.f 0 = some 0 from rfl, Option.bind_some, if_pos rfl, t1, Option.bind_some,
      lex_some (by omega) q1 (by omega) 2400000 (by decide), Option.bind_some, t2, Option.bind_some]
    simp only [show touchstonelaw01_No.f 0 = some 0 from rfl, Option.bind_some]
    rw [if_pos (by unfold wrap64; decide), same_f _ _ (by rw [List.length_map]; omega) 2400000 (by decide), Option.bind_some, map_tok_mk, map_tok_mk, q2, decide_eq_true rfl, if_pos rfl, hal]
    simp
end Go.Proofs.YtaikpnenegifnaaGreatDoor
