import Derived.Test.YtaikpnenegifnaaGreatDoorXLx12
import Derived.Test.YtaikpnenegifnaaGreatDoorG14
/- The law LexTells' printed answer is true, in plain Lean; the chapter's example; no program in sight. -/
namespace Go.Proofs.YtaikpnenegifnaaGreatDoor
set_option linter.unusedSimpArgs false
set_option linter.unusedVariables false
open Go.RowKit Go.Proofs.YtaikpnenegifnaaGreatDoorW.PrintWords Go.Proofs.YtaikpnenegifnaaGreatDoor.XL

theorem tells_loop (l : List (S32)) (hr : room l) (s : List UInt8) (a : ByteArray) (e : Int) : ∀ (m i k : Nat), i + m = l.length → 2300001 + m ≤ k →
    touchstonelaw06_LexTells.l0 k l (B s) a e a e (l.length : Int) i = some true := by
  intro m
  induction m with
  | zero =>
    intro i k hi hk
    obtain ⟨k, rfl⟩ : ∃ q, k = q + 1 := ⟨k - 1, by omega⟩
    rw [touchstonelaw06_LexTells.l0, if_neg (by omega), if_pos rfl]
    have hkw := keyword_f s
    have hIn := rIn s kwL (by decide) k (by omega)
    rw [show touchstonelaw01_No.f e = some e from rfl, Option.bind_some, if_pos rfl, hkw, Option.bind_some, kwB, Option.bind_some, hIn, Option.bind_some, alive_f k (by omega)]
    simp
  | succ m ih =>
    intro i k hi hk
    obtain ⟨k, rfl⟩ : ∃ q, k = q + 1 := ⟨k - 1, by omega⟩
    have hlt : i < l.length := by omega
    have hx := hr.1 l[i] (List.getElem_mem hlt)
    have hl := hr.2
    rw [touchstonelaw06_LexTells.l0, if_pos (by omega), if_pos (by omega), if_pos (by omega), rd_at hlt, lright_f _ hx, Option.bind_some, rright_f _ hx k (by omega), Option.bind_some, if_neg (by simp), wadd1 (by omega)]
    exact ih (i + 1) k (by omega) (by omega)
theorem tells_ex (l : List (S32)) (hl : ∀ x ∈ l, rangeTok x) (s : ByteArray) : ∃ k, touchstonelaw06_LexTells.f k l s = some true := by
  refine ⟨2400001, ?_⟩
  unfold touchstonelaw06_LexTells.f
  obtain ⟨b, hb, hok⟩ := few_f l 2400001 (by decide)
  have hal : touchstonelaw06_LexTells.j0 2400001 l s true = some true := by
    rw [touchstonelaw06_LexTells.j0, if_pos rfl, alive_f 2400000 (by decide)]
    rfl
  rw [hb, Option.bind_some]
  cases b with
  | false => rw [if_neg (by decide)]; exact hal
  | true =>
    rw [if_pos rfl]
    by_cases h1 : (s.size : Int) > 1000
    · rw [decide_eq_true h1]; exact hal
    rw [decide_eq_false h1]
    obtain ⟨hlen, hsz, -⟩ := hok rfl
    have hr : room l := ⟨fun x hx => ⟨by have := hsz x hx; omega, hl x hx⟩, by omega⟩
    rw [touchstonelaw06_LexTells.j0, if_neg (by decide), ltell_f l hr 2400000 (by decide), Option.bind_some, rtell_f l hr (by omega) 2400000 (by decide), Option.bind_some]
    have := tells_loop l hr s.data.toList (if l.all (fun x => rightL (tokOf x)) = true then (B (tellL (l.map tokOf)), (0 : Int)) else (B [], 2)).1 (if l.all (fun x => rightL (tokOf x)) = true then (B (tellL (l.map tokOf)), (0 : Int)) else (B [], 2)).2 l.length 0 2400000 (Nat.zero_add _) (by omega)
    rw [← B_of] at this
    exact this
end Go.Proofs.YtaikpnenegifnaaGreatDoor
