import Derived.Test.YtaikpnenegifnaaGreatDoorProg
import Derived.Below
import Derived.ChangeAgain
import Derived.WalkSmall
import Derived.Lib.LaidTab
import Derived.Lib.ItoaNum
import Derived.Deep.Draws
import Derived.Deep.AppendLies
import Derived.Maps.AppendAt
import Derived.OwnWalk
import Derived.Laws.BytesArg
import Derived.Laws.MakeOwn
import Derived.Laws.OwnMore
import Derived.Deep.OwnRows
import Derived.Tactics
import Derived.Lib.ConvBytes
import Derived.Laws.Slices
import Derived.WalkKit
import Derived.KernelRfl
import Derived.RowKit3
import Derived.Deep.LoopGhost
import Derived.Deep.QuietTactic
import Derived.BigQuiet
import Derived.WideLaws
import Derived.Deep.DeepCutAuto
import Derived.Deep.CutBlock
import Derived.Deep.RegionHeld3
import Derived.Laws.Rows
import Derived.Lib.AppendStr
import Derived.ArgAppend
import Derived.Laws.IdiomCopy
import Derived.OrdersHeld
import Derived.Laws.BitsLemmas
import Derived.RowKit
import Derived.Test.YtaikpnenegifnaaGreatDoorWWords
import Derived.Test.YtaikpnenegifnaaGreatDoorWLast
import Derived.Test.YtaikpnenegifnaaGreatDoorWTab
import Derived.Test.YtaikpnenegifnaaGreatDoorWFour
import Derived.Test.YtaikpnenegifnaaGreatDoorWQPut
import Derived.Test.YtaikpnenegifnaaGreatDoorWApart
import Derived.Test.YtaikpnenegifnaaGreatDoorWArr
import Derived.Test.YtaikpnenegifnaaGreatDoorWZeros
import Derived.Test.YtaikpnenegifnaaGreatDoorWFoot
import Derived.Test.YtaikpnenegifnaaGreatDoorWKept
import Derived.Test.YtaikpnenegifnaaGreatDoorWShare
import Derived.Test.YtaikpnenegifnaaGreatDoorWN
import Derived.Test.YtaikpnenegifnaaGreatDoorWFootNe
import Derived.Test.YtaikpnenegifnaaGreatDoorWAt
import Derived.Test.YtaikpnenegifnaaGreatDoorWEqStruct
import Derived.Test.YtaikpnenegifnaaGreatDoorWRepsOne
import Derived.Test.YtaikpnenegifnaaGreatDoorWInv
import Derived.Test.YtaikpnenegifnaaGreatDoorWInvWords
import Derived.Test.YtaikpnenegifnaaGreatDoorWGuard
import Derived.Test.YtaikpnenegifnaaGreatDoorWNEv
import Derived.Test.YtaikpnenegifnaaGreatDoorWMore
import Derived.Lib.ItoaMem
import Derived.Lib.Atoi
import Derived.Test.YtaikpnenegifnaaGreatDoorShelf
import Derived.Lib.AtoiErrMem
import Derived.Sort.Grow
/- What the session's contracts ask of a world: its package-level variables are of their types; the table of powers of ten holds its numbers; the error value of a bad numeral is an interface value. It is kept by every step that leaves the old blocks alone. -/
namespace Go.Proofs.YtaikpnenegifnaaGreatDoor
open Go.RowKit
structure EnvOk (w : World) : Prop where
  shaped : w.ShapedOpen Tryz.prog
  pow10 : Lib.TabIs Tryz.prog w "internal/strconv.uint64pow10" .u64 Lib.pow10Tab
  syn : ∃ tp p, w.var? Tryz.prog "strconv.ErrSyntax" = some #[.iface tp p]

theorem var_kept {P : Program} {w w' : World} {n : String} {cs : Array Value} (hb : Below w.heap.size w w') (h : w.var? P n = some cs) : w'.var? P n = some cs := by
  unfold World.var? at h ⊢
  cases hg : P.globalNamed n with
  | none => simp [hg] at h
  | some g =>
    simp only [hg, Option.bind_some] at h ⊢
    rcases Nat.lt_or_ge g w.heap.size with hl | hl
    · rw [hb.block g hl]; exact h
    · simp [Array.getElem?_eq_none hl] at h

theorem EnvOk.below {w w' : World} (h : EnvOk w) (hb : Below w.heap.size w w') : EnvOk w' where
  shaped := h.shaped.keptBut (hb.frame fun _ => False) (fun _ h => h.elim)
  pow10 := var_kept hb h.pow10
  syn := by obtain ⟨tp, p, h⟩ := h.syn; exact ⟨tp, p, var_kept hb h⟩

theorem EnvOk.drew {w : World} (h : EnvOk w) : EnvOk w.drew := h.below (Below.refl _ _).drew
theorem EnvOk.drewN {w : World} (h : EnvOk w) (n : Nat) : EnvOk (w.drewN n) := h.below ⟨rfl, rfl, rfl, Nat.le_refl _, fun _ _ => rfl⟩
end Go.Proofs.YtaikpnenegifnaaGreatDoor

-- written by wip/xp.py, a program of this project's session, over the kit's printer
namespace Go.Proofs.YtaikpnenegifnaaGreatDoor.XL
open Go.RowKit Go.Proofs.YtaikpnenegifnaaGreatDoorW.PrintWords Go.Proofs.YtaikpnenegifnaaGreatDoorW.PrintLast Go.Proofs.YtaikpnenegifnaaGreatDoorW.PrintMore
attribute [local go_sem] max2_int min2_int max_two min_two max_three min_three max_four min_four   -- for this text's walks alone
set_option linter.unusedVariables false
set_option linter.unusedSimpArgs false



def errW : Option Int → Value
  | none => .nilIface
  | some c => .iface 0 (.int .i64 c)
theorem errW_none : errW none = .nilIface := rfl
theorem errW_some (c : Int) : errW (some c) = .iface 0 (.int .i64 c) := rfl

theorem info5 : (Tryz.prog.info? 5).map (fun i => (i.zero, i.size, i.bytes)) = some (some (.int .u8 0), 1, 1) := by kernel_rfl
theorem info9 : (Tryz.prog.info? 9).map (fun i => (i.zero, i.size, i.bytes)) = some (some (.string ⟨#[]⟩), 1, 16) := by kernel_rfl
theorem info32 : (Tryz.prog.info? 32).map (fun i => (i.zero, i.size, i.bytes)) = some (some (.agg #[(.int .i64 0), (.string ⟨#[]⟩), (.int .i64 0), (.int .i64 0)]), 4, 40) := by kernel_rfl
-- the values' own types
/-! #### struct type 32 -/
structure S32 where
  f0 : Int
  f1 : ByteArray
  f2 : Int
  f3 : Int
def z32 : S32 := ⟨(0 : Int), (⟨#[]⟩ : ByteArray), (0 : Int), (0 : Int)⟩
def k32 : Kd S32 := Kd.iso (Kd.pair (Kd.int .i64) (Kd.pair Kd.string (Kd.pair (Kd.int .i64) (Kd.int .i64)))) (fun x : S32 => (x.f0, x.f1, x.f2, x.f3))
theorem k32_open {w : World} {x : S32} {cs : List Value} (h : k32.K w x cs) : cs = [.int .i64 x.f0, .string x.f1, .int .i64 x.f2, .int .i64 x.f3] := by
  obtain ⟨_, _, rfl, rfl, ⟨_, _, rfl, rfl, ⟨_, _, rfl, rfl, rfl⟩⟩⟩ := h
  exact rfl
theorem k32_openM {w : World} {base : Nat} {ok : Nat → Prop} {x : S32} {cs : List Value} (h : k32.M w base ok x cs) : cs = [.int .i64 x.f0, .string x.f1, .int .i64 x.f2, .int .i64 x.f3] := by
  obtain ⟨_, _, rfl, rfl, ⟨_, _, rfl, rfl, ⟨_, _, rfl, rfl, rfl⟩⟩⟩ := h
  exact rfl
theorem k32_mk (w : World) (x : S32)  : k32.K w x [.int .i64 x.f0, .string x.f1, .int .i64 x.f2, .int .i64 x.f3] := ⟨[.int .i64 x.f0], [.string x.f1, .int .i64 x.f2, .int .i64 x.f3], rfl, rfl, ⟨[.string x.f1], [.int .i64 x.f2, .int .i64 x.f3], rfl, rfl, ⟨[.int .i64 x.f2], [.int .i64 x.f3], rfl, rfl, rfl⟩⟩⟩
theorem k32_mkM (w : World) (base : Nat) (ok : Nat → Prop) (x : S32)  : k32.M w base ok x [.int .i64 x.f0, .string x.f1, .int .i64 x.f2, .int .i64 x.f3] := ⟨[.int .i64 x.f0], [.string x.f1, .int .i64 x.f2, .int .i64 x.f3], rfl, rfl, ⟨[.string x.f1], [.int .i64 x.f2, .int .i64 x.f3], rfl, rfl, ⟨[.int .i64 x.f2], [.int .i64 x.f3], rfl, rfl, rfl⟩⟩⟩
def rd_T32 (xs : List S32) (i : Int) : S32 := xs.getD i.toNat z32
theorem at_T32 {w : World} {A : Option Addr} {n : Nat} {xs : List S32} (h : Kd.C k32 w A n xs) (i : Int) (h0 : 0 ≤ i) (h1 : i < n) : ∃ ad , A = some ad ∧ w.cell? (ad.add (i.toNat * 4)) = some (.int .i64 (rd_T32 xs i).f0) ∧ w.cell? ⟨(ad.add (i.toNat * 4)).block, (ad.add (i.toNat * 4)).off + 1, none⟩ = some (.string (rd_T32 xs i).f1) ∧ w.cell? ⟨(ad.add (i.toNat * 4)).block, (ad.add (i.toNat * 4)).off + 2, none⟩ = some (.int .i64 (rd_T32 xs i).f2) ∧ w.cell? ⟨(ad.add (i.toNat * 4)).block, (ad.add (i.toNat * 4)).off + 3, none⟩ = some (.int .i64 (rd_T32 xs i).f3) := by
  obtain ⟨ad, c, e, _, hK, hc0⟩ := Kd.C_get h z32 i h0 h1
  have hc : ∀ j u, c[j]? = some u → w.cell? (ad.add (i.toNat * 4 + j)) = some u := hc0
  obtain rfl := k32_open hK
  exact ⟨ad, e, hc 0 _ rfl, by rw [← add_field _ _ 1 (by omega)]; exact hc 1 _ rfl, by rw [← add_field _ _ 2 (by omega)]; exact hc 2 _ rfl, by rw [← add_field _ _ 3 (by omega)]; exact hc 3 _ rfl⟩

def rd_L4 (xs : List (List ByteArray)) (i : Int) : (List ByteArray) := xs.getD i.toNat ([] : List ByteArray)
theorem at_L4 {w : World} {A : Option Addr} {n : Nat} {xs : List (List ByteArray)} (h : Kd.C (Kd.slice 9 Kd.string) w A n xs) (i : Int) (h0 : 0 ≤ i) (h1 : i < n) : ∃ ad A0 c0, A = some ad ∧ w.cell? (ad.add i.toNat) = some (.slice A0 (rd_L4 xs i).length c0) ∧ (rd_L4 xs i).length ≤ c0 ∧ Kd.string.C w A0 (rd_L4 xs i).length (rd_L4 xs i) := by
  obtain ⟨ad, c, e, _, hK, hc0⟩ := Kd.C_get h ([] : List ByteArray) i h0 h1
  have hc : ∀ j u, c[j]? = some u → w.cell? (ad.add (i.toNat * 1 + j)) = some u := hc0
  obtain ⟨A0, c0, rfl, l0, g0⟩ := hK
  exact ⟨ad, A0, c0, e, by have hq := hc 0 _ rfl; rwa [Nat.mul_one, Nat.add_zero] at hq, l0, g0⟩

/-! #### struct type 44 -/
structure S44 where
  f0 : Int
  f1 : Int
  f2 : Int
def z44 : S44 := ⟨(0 : Int), (0 : Int), (0 : Int)⟩
def k44 : Kd S44 := Kd.iso (Kd.pair (Kd.int .i64) (Kd.pair (Kd.int .i64) (Kd.int .i64))) (fun x : S44 => (x.f0, x.f1, x.f2))
theorem k44_open {w : World} {x : S44} {cs : List Value} (h : k44.K w x cs) : cs = [.int .i64 x.f0, .int .i64 x.f1, .int .i64 x.f2] := by
  obtain ⟨_, _, rfl, rfl, ⟨_, _, rfl, rfl, rfl⟩⟩ := h
  exact rfl
theorem k44_openM {w : World} {base : Nat} {ok : Nat → Prop} {x : S44} {cs : List Value} (h : k44.M w base ok x cs) : cs = [.int .i64 x.f0, .int .i64 x.f1, .int .i64 x.f2] := by
  obtain ⟨_, _, rfl, rfl, ⟨_, _, rfl, rfl, rfl⟩⟩ := h
  exact rfl
theorem k44_mk (w : World) (x : S44)  : k44.K w x [.int .i64 x.f0, .int .i64 x.f1, .int .i64 x.f2] := ⟨[.int .i64 x.f0], [.int .i64 x.f1, .int .i64 x.f2], rfl, rfl, ⟨[.int .i64 x.f1], [.int .i64 x.f2], rfl, rfl, rfl⟩⟩
theorem k44_mkM (w : World) (base : Nat) (ok : Nat → Prop) (x : S44)  : k44.M w base ok x [.int .i64 x.f0, .int .i64 x.f1, .int .i64 x.f2] := ⟨[.int .i64 x.f0], [.int .i64 x.f1, .int .i64 x.f2], rfl, rfl, ⟨[.int .i64 x.f1], [.int .i64 x.f2], rfl, rfl, rfl⟩⟩
def rd_T44 (xs : List S44) (i : Int) : S44 := xs.getD i.toNat z44
theorem at_T44 {w : World} {A : Option Addr} {n : Nat} {xs : List S44} (h : Kd.C k44 w A n xs) (i : Int) (h0 : 0 ≤ i) (h1 : i < n) : ∃ ad , A = some ad ∧ w.cell? (ad.add (i.toNat * 3)) = some (.int .i64 (rd_T44 xs i).f0) ∧ w.cell? ⟨(ad.add (i.toNat * 3)).block, (ad.add (i.toNat * 3)).off + 1, none⟩ = some (.int .i64 (rd_T44 xs i).f1) ∧ w.cell? ⟨(ad.add (i.toNat * 3)).block, (ad.add (i.toNat * 3)).off + 2, none⟩ = some (.int .i64 (rd_T44 xs i).f2) := by
  obtain ⟨ad, c, e, _, hK, hc0⟩ := Kd.C_get h z44 i h0 h1
  have hc : ∀ j u, c[j]? = some u → w.cell? (ad.add (i.toNat * 3 + j)) = some u := hc0
  obtain rfl := k44_open hK
  exact ⟨ad, e, hc 0 _ rfl, by rw [← add_field _ _ 1 (by omega)]; exact hc 1 _ rfl, by rw [← add_field _ _ 2 (by omega)]; exact hc 2 _ rfl⟩

end Go.Proofs.YtaikpnenegifnaaGreatDoor.XL

/- Decimal numerals as lists of bytes, in plain Lean: the run of digits at the front of a text, its number, and the numeral of a number; no program in sight. -/
namespace Go.Proofs.YtaikpnenegifnaaGreatDoor
open Go

def isD (b : UInt8) : Bool := decide (48 ≤ b.toNat) && decide (b.toNat ≤ 57)
theorem isD_iff (b : UInt8) : isD b = true ↔ 48 ≤ b.toNat ∧ b.toNat ≤ 57 := by simp [isD]
def valF (n : Nat) (b : UInt8) : Nat := 10 * n + (b.toNat - 48)
def val (l : List UInt8) : Nat := l.foldl valF 0
theorem val_append (l : List UInt8) (b : UInt8) : val (l ++ [b]) = 10 * val l + (b.toNat - 48) := by simp [val, valF, List.foldl_append]
theorem fold_ge : ∀ (l : List UInt8) (a : Nat), a ≤ l.foldl valF a
  | [], _ => Nat.le_refl _
  | b :: l, a => Nat.le_trans (by unfold valF; omega) (fold_ge l (valF a b))
theorem val_pos {l : List UInt8} (hd : ∀ b ∈ l, isD b = true) (hn : l ≠ []) (hh : l.head? ≠ some 48) : 1 ≤ val l := by
  cases l with
  | nil => exact absurd rfl hn
  | cons b l =>
    have h1 := (isD_iff b).1 (hd b (by simp))
    have h2 : b.toNat ≠ 48 := fun e => hh (by simp; exact UInt8.toNat_inj.1 e)
    refine Nat.le_trans ?_ (fold_ge l (valF 0 b))
    unfold valF; omega
theorem fold_lt : ∀ (l : List UInt8) (a : Nat), (∀ b ∈ l, isD b = true) → l.foldl valF a < (a + 1) * 10 ^ l.length
  | [], a, _ => by simp
  | b :: l, a, h => by
    have h1 := (isD_iff b).1 (h b (by simp))
    have ih := fold_lt l (valF a b) (fun x hx => h x (by simp [hx]))
    simp only [List.foldl_cons, List.length_cons, Nat.pow_succ]
    refine Nat.lt_of_lt_of_le ih ?_
    rw [Nat.mul_comm (10 ^ l.length) 10, ← Nat.mul_assoc]
    exact Nat.mul_le_mul_right _ (by unfold valF; omega)
theorem val_lt {l : List UInt8} (h : ∀ b ∈ l, isD b = true) : val l < 10 ^ l.length := by
  have := fold_lt l 0 h
  simpa [val] using this
theorem dig_ofNat {d : Nat} (h : d < 10) : (UInt8.ofNat (48 + d)).toNat = 48 + d := by simp [UInt8.toNat_ofNat]; omega
theorem ofNat_dig {b : UInt8} (h : isD b = true) : UInt8.ofNat (48 + (b.toNat - 48)) = b := by
  have h1 := (isD_iff b).1 h
  apply UInt8.toNat_inj.1
  rw [dig_ofNat (by omega)]; omega

theorem decDigits_facts (n : Nat) : (∀ b ∈ Lib.decDigits n, isD b = true) ∧ Lib.decDigits n ≠ [] ∧ val (Lib.decDigits n) = n ∧ (10 ≤ n → (Lib.decDigits n).head? ≠ some 48) ∧ (n ≠ 0 → (Lib.decDigits n).head? ≠ some 48) := by
  induction n using Nat.strongRecOn with
  | _ n ih =>
    by_cases h : n < 10
    · rw [Lib.decDigits, dif_pos h]
      have e := dig_ofNat h
      refine ⟨fun b hb => ?_, by simp, ?_, fun h1 => by omega, fun h1 h2 => ?_⟩
      · simp only [List.mem_singleton] at hb
        subst hb
        rw [isD_iff, e]; omega
      · simp [val, valF]; omega
      · simp only [List.head?_cons, Option.some.injEq] at h2
        have := congrArg UInt8.toNat h2
        rw [e] at this
        simp at this
        omega
    · rw [Lib.decDigits, dif_neg h]
      have e := dig_ofNat (show n % 10 < 10 by omega)
      obtain ⟨i1, i2, i3, i4, i5⟩ := ih (n / 10) (by omega)
      have hh : (Lib.decDigits (n / 10) ++ [UInt8.ofNat (48 + n % 10)]).head? ≠ some 48 := by
        intro hx
        cases hl : Lib.decDigits (n / 10) with
        | nil => exact i2 hl
        | cons b l => rw [hl] at hx i5; exact i5 (by omega) (by simpa using hx)
      refine ⟨fun b hb => ?_, by simp, ?_, fun _ => hh, fun _ => hh⟩
      · rw [List.mem_append] at hb
        rcases hb with hb | hb
        · exact i1 b hb
        · simp only [List.mem_singleton] at hb
          subst hb
          rw [isD_iff, e]; omega
      · rw [val_append, i3, e]; omega
theorem decDigits_len {n : Nat} (h : n ≤ 999999) : (Lib.decDigits n).length ≤ 6 := by
  rw [Lib.decDigits_length]
  by_cases h0 : n < 10
  · rw [Lib.nDigits_small h0]; omega
  rw [Lib.nDigits_big h0]
  by_cases h1 : n / 10 < 10
  · rw [Lib.nDigits_small h1]; omega
  rw [Lib.nDigits_big h1]
  by_cases h2 : n / 10 / 10 < 10
  · rw [Lib.nDigits_small h2]; omega
  rw [Lib.nDigits_big h2]
  by_cases h3 : n / 10 / 10 / 10 < 10
  · rw [Lib.nDigits_small h3]; omega
  rw [Lib.nDigits_big h3]
  by_cases h4 : n / 10 / 10 / 10 / 10 < 10
  · rw [Lib.nDigits_small h4]; omega
  rw [Lib.nDigits_big h4, Lib.nDigits_small (by omega)]
  omega
/-- A row of digits without a needless 0 ahead is its number's numeral. -/
theorem decDigits_val : ∀ (m : Nat) (l : List UInt8), l.length = m → (∀ b ∈ l, isD b = true) → l ≠ [] → (l.length ≤ 1 ∨ l.head? ≠ some 48) → Lib.decDigits (val l) = l
  | 0, l, hm, _, hn, _ => by cases l with
    | nil => exact absurd rfl hn
    | cons b l => simp at hm
  | m + 1, l, hm, hd, hn, hh => by
    have e : l = l.dropLast ++ [l.getLast hn] := (List.dropLast_concat_getLast hn).symm
    have hb : isD (l.getLast hn) = true := hd _ (List.getLast_mem hn)
    have hb1 := (isD_iff _).1 hb
    have hl : l.dropLast.length = m := by simp [hm]
    have hv : val l = 10 * val l.dropLast + ((l.getLast hn).toNat - 48) := by conv => lhs; rw [e]
                                                                              exact val_append _ _
    by_cases h0 : l.dropLast = []
    · rw [h0] at hv e
      have hv' : val l = (l.getLast hn).toNat - 48 := by simpa [val] using hv
      rw [hv', Lib.decDigits, dif_pos (by omega), ofNat_dig hb]
      exact e.symm
    · have hd' : ∀ b ∈ l.dropLast, isD b = true := fun b hx => hd b ((List.dropLast_sublist l).subset hx)
      have hhd : l.head? ≠ some 48 := by
        rcases hh with hh | hh
        · exfalso
          apply h0
          apply List.eq_nil_of_length_eq_zero
          omega
        · exact hh
      have hhd' : l.dropLast.head? ≠ some 48 := by
        intro hx
        apply hhd
        rw [e]
        cases hq : l.dropLast with
        | nil => exact absurd hq h0
        | cons b r => rw [hq] at hx; simpa using hx
      have hp := val_pos hd' h0 hhd'
      have ih := decDigits_val m l.dropLast hl hd' h0 (.inr hhd')
      rw [Lib.decDigits, dif_neg (by omega), show val l / 10 = val l.dropLast by omega, ih, show val l % 10 = (l.getLast hn).toNat - 48 by omega, ofNat_dig hb]
      exact e.symm

/-- The numeral at the front of a text: its number and what stands behind it. -/
def numL (l : List UInt8) : Option (Nat × List UInt8) :=
  if l.takeWhile isD = [] ∨ 6 < (l.takeWhile isD).length ∨ (1 < (l.takeWhile isD).length ∧ (l.takeWhile isD).head? = some 48) then none else some (val (l.takeWhile isD), l.drop (l.takeWhile isD).length)
def NoD (r : List UInt8) : Prop := ∀ b, r.head? = some b → isD b = false
theorem takeWhile_noD {r : List UInt8} (h : NoD r) : r.takeWhile isD = [] := by
  cases r with
  | nil => rfl
  | cons b r => simp [List.takeWhile, h b rfl]
theorem numL_dec {n : Nat} {r : List UInt8} (hn : n ≤ 999999) (hr : NoD r) : numL (Lib.decDigits n ++ r) = some (n, r) := by
  obtain ⟨i1, i2, i3, i4, i5⟩ := decDigits_facts n
  have hl := decDigits_len hn
  have ht : (Lib.decDigits n ++ r).takeWhile isD = Lib.decDigits n := by
    rw [List.takeWhile_append_of_pos i1, takeWhile_noD hr, List.append_nil]
  unfold numL
  rw [ht, i3, List.drop_left' rfl, if_neg]
  rintro (h | h | ⟨h1, h2⟩)
  · exact i2 h
  · omega
  · by_cases h0 : n = 0
    · subst h0
      rw [Lib.decDigits, dif_pos (by decide)] at h1
      simp at h1
    · exact i5 h0 h2
theorem noD_drop : ∀ l : List UInt8, NoD (l.drop (l.takeWhile isD).length)
  | [] => fun b h => by simp at h
  | c :: l => by
    by_cases hc : isD c = true
    · rw [List.takeWhile_cons_of_pos hc]
      simpa using noD_drop l
    · rw [List.takeWhile_cons_of_neg hc]
      intro b hb
      simp at hb
      subst hb
      simpa using hc
theorem take_takeWhile : ∀ l : List UInt8, l.takeWhile isD ++ l.drop (l.takeWhile isD).length = l
  | [] => rfl
  | c :: l => by
    by_cases hc : isD c = true
    · rw [List.takeWhile_cons_of_pos hc]
      simpa using take_takeWhile l
    · rw [List.takeWhile_cons_of_neg hc]
      simp
theorem all_takeWhile : ∀ (l : List UInt8), ∀ b ∈ l.takeWhile isD, isD b = true
  | [], b, h => by simp at h
  | c :: l, b, h => by
    by_cases hc : isD c = true
    · rw [List.takeWhile_cons_of_pos hc] at h
      rcases List.mem_cons.1 h with rfl | h
      · exact hc
      · exact all_takeWhile l b h
    · rw [List.takeWhile_cons_of_neg hc] at h
      simp at h
theorem numL_some {l r : List UInt8} {n : Nat} (h : numL l = some (n, r)) : l = Lib.decDigits n ++ r ∧ n ≤ 999999 ∧ NoD r ∧ r = l.drop (l.takeWhile isD).length := by
  unfold numL at h
  split at h
  · cases h
  · rename_i hc
    simp only [Option.some.injEq, Prod.mk.injEq] at h
    obtain ⟨rfl, rfl⟩ := h
    have hc1 : l.takeWhile isD ≠ [] := fun e => hc (.inl e)
    have hc2 : ¬ 6 < (l.takeWhile isD).length := fun e => hc (.inr (.inl e))
    have hc3 : (l.takeWhile isD).length ≤ 1 ∨ (l.takeWhile isD).head? ≠ some 48 := by
      by_cases h1 : (l.takeWhile isD).length ≤ 1
      · exact .inl h1
      · exact .inr fun e => hc (.inr (.inr ⟨by omega, e⟩))
    have hv := val_lt (all_takeWhile l)
    have hp : 10 ^ (l.takeWhile isD).length ≤ 10 ^ 6 := Nat.pow_le_pow_right (by decide) (by omega)
    rw [decDigits_val _ _ rfl (all_takeWhile l) hc1 hc3]
    exact ⟨(take_takeWhile l).symm, by omega, noD_drop l, rfl⟩
/-- A version's text. -/
def vtext (a b c : Nat) : List UInt8 := Lib.decDigits a ++ 46 :: (Lib.decDigits b ++ 46 :: Lib.decDigits c)
theorem noD_dot (r : List UInt8) : NoD (46 :: r) := fun b h => by
  simp at h
  subst h
  rfl
theorem noD_nil : NoD [] := fun b h => by simp at h
/-- The version that a text spells. -/
def verL (l : List UInt8) : Option (Nat × Nat × Nat) :=
  match numL l with
  | some (a, 46 :: r) => match numL r with
    | some (b, 46 :: r2) => match numL r2 with
      | some (c, []) => some (a, b, c)
      | _ => none
    | _ => none
  | _ => none
theorem verL_text {a b c : Nat} (ha : a ≤ 999999) (hb : b ≤ 999999) (hc : c ≤ 999999) : verL (vtext a b c) = some (a, b, c) := by
  unfold verL vtext
  rw [numL_dec ha (noD_dot _)]
  simp only []
  rw [numL_dec hb (noD_dot _)]
  simp only []
  have := numL_dec hc noD_nil
  rw [List.append_nil] at this
  rw [this]
theorem verL_some {l : List UInt8} {a b c : Nat} (h : verL l = some (a, b, c)) : l = vtext a b c ∧ a ≤ 999999 ∧ b ≤ 999999 ∧ c ≤ 999999 := by
  unfold verL at h
  split at h
  · rename_i a' r e1
    split at h
    · rename_i b' r2 e2
      split at h
      · rename_i c' e3
        simp only [Option.some.injEq, Prod.mk.injEq] at h
        obtain ⟨rfl, rfl, rfl⟩ := h
        obtain ⟨rfl, h1, -, -⟩ := numL_some e1
        obtain ⟨rfl, h2, -, -⟩ := numL_some e2
        obtain ⟨rfl, h3, -, -⟩ := numL_some e3
        exact ⟨by simp [vtext], h1, h2, h3⟩
      · cases h
    · cases h
  · cases h
end Go.Proofs.YtaikpnenegifnaaGreatDoor

/- Tokens of a source as lists of bytes, in plain Lean: the token at the front of a text, how a token is told, and that what is told is read back; no program in sight. -/
namespace Go.Proofs.YtaikpnenegifnaaGreatDoor
set_option linter.unusedSimpArgs false
set_option linter.unusedVariables false
open Go

def isS (b : UInt8) : Bool := decide (97 ≤ b.toNat) && decide (b.toNat ≤ 122)
def isG (b : UInt8) : Bool := decide (65 ≤ b.toNat) && decide (b.toNat ≤ 90)
/-- A byte of a type's variable; of a name. -/
def isV (b : UInt8) : Bool := isS b || isG b || isD b || b == 95
def isN (b : UInt8) : Bool := isV b || b == 39
def kwL : List (List UInt8) := [[105, 109, 112, 111, 114, 116], [116, 121, 112, 101], [97, 108, 105, 97, 115], [108, 101, 116], [114, 101, 99], [105, 110], [102, 117, 110], [109, 97, 116, 99, 104], [119, 105, 116, 104], [101, 110, 100], [101, 120, 112, 111, 114, 116]]
def sgL : List UInt8 := [61, 124, 40, 41, 44, 59, 58, 46, 64]

abbrev TokL := Int × List UInt8 × Int

def nameK (w : List UInt8) : Int := if isG (w.headD 0) = true then 2 else if w = [95] then 8 else if w ∈ kwL then 7 else 1
def nameL (l : List UInt8) : Option (TokL × Nat) :=
  if 30 < (l.takeWhile isN).length then none else some ((nameK (l.takeWhile isN), l.takeWhile isN, 0), (l.takeWhile isN).length)
def varL (r : List UInt8) : Option (TokL × Nat) :=
  if 30 < (r.takeWhile isV).length + 1 ∨ isS (r.headD 0) = false then none else some ((3, r.takeWhile isV, 0), (r.takeWhile isV).length + 1)
def escOf (c : UInt8) : Option UInt8 := if c = 92 then some 92 else if c = 34 then some 34 else if c = 110 then some 10 else if c = 116 then some 9 else none
/-- The bytes of a text behind its opening quote, and how many bytes they take with the closing one. -/
def textL : List UInt8 → Option (List UInt8 × Nat)
  | [] => none
  | c :: r =>
    if c = 34 then some ([], 1)
    else if c.toNat < 32 ∨ 126 < c.toNat then none
    else if c = 92 then
      match r with
      | [] => none
      | d :: r2 => match escOf d with
        | some x => (textL r2).map fun p => (x :: p.1, p.2 + 2)
        | none => none
    else (textL r).map fun p => (c :: p.1, p.2 + 1)
/-- The version at the front of a text: how many bytes it takes. -/
def versionL (l : List UInt8) : Option Nat :=
  match numL l with
  | some (_, 46 :: r) => match numL r with
    | some (_, 46 :: r2) => match numL r2 with
      | some (_, r3) => some (l.length - r3.length)
      | none => none
    | _ => none
  | _ => none
/-- The numeral at the front of a text: of 1 to 18 digits, no needless 0 ahead. -/
def intL (l : List UInt8) : Option (Nat × Nat) :=
  if l.takeWhile isD = [] ∨ 18 < (l.takeWhile isD).length ∨ (1 < (l.takeWhile isD).length ∧ l.headD 0 = 48) then none else some (val (l.takeWhile isD), (l.takeWhile isD).length)
def numTokL (c : UInt8) (l : List UInt8) : Option (TokL × Nat) :=
  match versionL l with
  | some n => some ((6, l.take n, 0), n)
  | none => (intL l).map fun p => ((4, [], (p.1 : Int)), p.2)
def negL (r : List UInt8) : Option (TokL × Nat) :=
  match intL r with
  | some (v, n) => if r.headD 0 = 48 then none else some ((4, [], -(v : Int)), n + 1)
  | none => none
/-- The token at the front of a text, and how many bytes it takes. -/
def oneL : List UInt8 → Option (TokL × Nat)
  | [] => none
  | c :: r =>
    if (isS c || isG c || c == 95) = true then nameL (c :: r)
    else if c = 39 then varL r
    else if c = 34 then (match textL r with
      | some (t, n) => if t.length ≤ 1000 then some ((5, t, 0), n + 1) else none
      | none => none)
    else if c = 45 then (if r.headD 0 = 62 then some ((8, [45, 62], 0), 2) else negL r)
    else if isD c = true then numTokL c (c :: r)
    else if c ∈ sgL then some ((8, [c], 0), 1) else none

/-! ### how a token is told -/
def esc1 (c : UInt8) : List UInt8 := if c = 10 then [92, 110] else if c = 9 then [92, 116] else if c = 34 then [92, 34] else if c = 92 then [92, 92] else [c]
def escB (t : List UInt8) : List UInt8 := t.flatMap esc1
def toldL (t : TokL) : List UInt8 := if t.1 = 3 then 39 :: t.2.1 else if t.1 = 4 then Lib.itoa t.2.2 else if t.1 = 5 then 34 :: (escB t.2.1 ++ [34]) else t.2.1

/-- What may stand behind a token: the end, a blank, or the beginning of a remark. -/
def Stop (r : List UInt8) : Prop := ∀ b, r.head? = some b → b = 32 ∨ b = 9 ∨ b = 10 ∨ b = 45
theorem stop_nil : Stop [] := fun b h => by simp at h
theorem stop_cons {b : UInt8} {r : List UInt8} (h : b = 32 ∨ b = 9 ∨ b = 10 ∨ b = 45) : Stop (b :: r) := fun c hc => by
  simp only [List.head?_cons, Option.some.injEq] at hc
  subst hc; exact h

/-! ### runs -/
theorem tw_stop {P : UInt8 → Bool} {w r : List UInt8} (hw : ∀ b ∈ w, P b = true) (hr : ∀ b, r.head? = some b → P b = false) : (w ++ r).takeWhile P = w := by
  rw [List.takeWhile_append_of_pos hw]
  cases r with
  | nil => simp
  | cons b r => rw [List.takeWhile_cons_of_neg (by rw [hr b rfl]; decide), List.append_nil]
theorem tw_all (P : UInt8 → Bool) : ∀ (l : List UInt8), ∀ b ∈ l.takeWhile P, P b = true
  | [], b, h => by simp at h
  | c :: l, b, h => by
    by_cases hc : P c = true
    · rw [List.takeWhile_cons_of_pos hc] at h
      rcases List.mem_cons.1 h with rfl | h
      · exact hc
      · exact tw_all P l b h
    · rw [List.takeWhile_cons_of_neg hc] at h
      simp at h
theorem tw_take (P : UInt8 → Bool) : ∀ l : List UInt8, l.take (l.takeWhile P).length = l.takeWhile P
  | [] => rfl
  | c :: l => by
    by_cases hc : P c = true
    · rw [List.takeWhile_cons_of_pos hc]
      simp [tw_take P l]
    · rw [List.takeWhile_cons_of_neg hc]
      simp
theorem tw_len (P : UInt8 → Bool) (l : List UInt8) : (l.takeWhile P).length ≤ l.length := (List.takeWhile_sublist P).length_le
theorem stop_isN {r : List UInt8} (h : Stop r) : ∀ b, r.head? = some b → isN b = false := fun b hb => by
  rcases h b hb with rfl | rfl | rfl | rfl <;> decide
theorem stop_isV {r : List UInt8} (h : Stop r) : ∀ b, r.head? = some b → isV b = false := fun b hb => by
  rcases h b hb with rfl | rfl | rfl | rfl <;> decide
theorem stop_isD {r : List UInt8} (h : Stop r) : ∀ b, r.head? = some b → isD b = false := fun b hb => by
  rcases h b hb with rfl | rfl | rfl | rfl <;> decide
theorem stop_dot {r : List UInt8} (h : Stop r) (q : List UInt8) : r ≠ 46 :: q := fun e => by
  rcases h 46 (by rw [e]; rfl) with e | e | e | e <;> exact absurd e (by decide)

/-! ### texts -/
def goodB (b : UInt8) : Prop := b = 10 ∨ b = 9 ∨ (32 ≤ b.toNat ∧ b.toNat ≤ 126)
theorem escOf_esc {d x : UInt8} (h : escOf d = some x) : esc1 x = [92, d] ∧ goodB x := by
  unfold escOf at h
  split at h
  · rename_i e; subst e; cases h; exact ⟨by decide, .inr (.inr (by decide))⟩
  · split at h
    · rename_i e; subst e; cases h; exact ⟨by decide, .inr (.inr (by decide))⟩
    · split at h
      · rename_i e; subst e; cases h; exact ⟨by decide, .inl rfl⟩
      · split at h
        · rename_i e; subst e; cases h; exact ⟨by decide, .inr (.inl rfl)⟩
        · cases h
theorem esc1_plain {c : UInt8} (h34 : c ≠ 34) (h92 : c ≠ 92) (hg : ¬ (c.toNat < 32 ∨ 126 < c.toNat)) : esc1 c = [c] := by
  unfold esc1
  have h10 : c ≠ 10 := fun e => hg (.inl (by rw [e]; decide))
  have h9 : c ≠ 9 := fun e => hg (.inl (by rw [e]; decide))
  rw [if_neg h10, if_neg h9, if_neg h34, if_neg h92]
theorem textL_cons (c : UInt8) (r : List UInt8) : textL (c :: r) = (if c = 34 then some ([], 1)
    else if c.toNat < 32 ∨ 126 < c.toNat then none
    else if c = 92 then
      match r with
      | [] => none
      | d :: r2 => match escOf d with
        | some x => (textL r2).map fun p => (x :: p.1, p.2 + 2)
        | none => none
    else (textL r).map fun p => (c :: p.1, p.2 + 1)) := by
  rw [textL.eq_def]
theorem nameK_cases (w : List UInt8) : nameK w = 2 ∨ nameK w = 8 ∨ nameK w = 7 ∨ nameK w = 1 := by
  unfold nameK
  split
  · exact .inl rfl
  · split
    · exact .inr (.inl rfl)
    · split
      · exact .inr (.inr (.inl rfl))
      · exact .inr (.inr (.inr rfl))
theorem told_name (w : List UInt8) : toldL (nameK w, w, 0) = w := by
  unfold toldL
  rcases nameK_cases w with h | h | h | h <;> simp only [h] <;> rfl
theorem textL_some : ∀ (m : Nat) (l t : List UInt8) (n : Nat), l.length ≤ m → textL l = some (t, n) → l.take n = escB t ++ [34] ∧ n = (escB t).length + 1 ∧ n ≤ l.length ∧ ∀ b ∈ t, goodB b := by
  intro m
  induction m with
  | zero =>
    intro l t n hm h
    have : l = [] := List.eq_nil_of_length_eq_zero (by omega)
    subst this
    simp [textL] at h
  | succ m ih =>
    intro l t n hm h
    cases l with
    | nil => simp [textL] at h
    | cons c r =>
      rw [textL_cons] at h
      split at h
      · rename_i e
        subst e
        simp only [Option.some.injEq, Prod.mk.injEq] at h
        obtain ⟨rfl, rfl⟩ := h
        exact ⟨by simp [escB], by simp [escB], by simp, fun b hb => by simp at hb⟩
      · rename_i h34
        split at h
        · cases h
        · rename_i hg
          split at h
          · rename_i h92
            subst h92
            split at h
            · cases h
            · rename_i d r2
              split at h
              · rename_i x hx
                rw [Option.map_eq_some_iff] at h
                obtain ⟨⟨t', n'⟩, ht, he⟩ := h
                simp only [Prod.mk.injEq] at he
                obtain ⟨rfl, rfl⟩ := he
                obtain ⟨i1, i2, i3, i4⟩ := ih r2 t' n' (by simp only [List.length_cons] at hm; omega) ht
                obtain ⟨e1, e2⟩ := escOf_esc hx
                refine ⟨by simp [escB, e1] at i1 ⊢; exact i1, by simp [escB, e1] at i2 ⊢; omega, by simp; omega, fun b hb => ?_⟩
                rcases List.mem_cons.1 hb with rfl | hb
                · exact e2
                · exact i4 b hb
              · cases h
          · rename_i h92
            rw [Option.map_eq_some_iff] at h
            obtain ⟨⟨t', n'⟩, ht, he⟩ := h
            simp only [Prod.mk.injEq] at he
            obtain ⟨rfl, rfl⟩ := he
            obtain ⟨i1, i2, i3, i4⟩ := ih r t' n' (by simp only [List.length_cons] at hm; omega) ht
            have e1 := esc1_plain h34 h92 hg
            refine ⟨by simp [escB, e1] at i1 ⊢; exact i1, by simp [escB, e1] at i2 ⊢; omega, by simp; omega, fun b hb => ?_⟩
            rcases List.mem_cons.1 hb with rfl | hb
            · exact .inr (.inr (by omega))
            · exact i4 b hb
theorem textL_back : ∀ (t r : List UInt8), (∀ b ∈ t, goodB b) → textL (escB t ++ 34 :: r) = some (t, (escB t).length + 1)
  | [], r, _ => by rw [show escB [] ++ 34 :: r = 34 :: r from rfl, textL_cons, if_pos rfl]; rfl
  | c :: t, r, h => by
    have ih := textL_back t r (fun b hb => h b (by simp [hb]))
    have hE : escB (c :: t) = esc1 c ++ escB t := by simp [escB]
    rw [hE, List.append_assoc]
    by_cases h10 : c = 10
    · subst h10
      rw [show esc1 10 = [92, 110] from rfl]
      simp only [List.cons_append, List.nil_append]
      rw [textL_cons, if_neg (by decide), if_neg (by decide), if_pos rfl]
      simp only [show escOf 110 = some 10 from rfl, ih]
      simp
    by_cases h9 : c = 9
    · subst h9
      rw [show esc1 9 = [92, 116] from rfl]
      simp only [List.cons_append, List.nil_append]
      rw [textL_cons, if_neg (by decide), if_neg (by decide), if_pos rfl]
      simp only [show escOf 116 = some 9 from rfl, ih]
      simp
    by_cases h34 : c = 34
    · subst h34
      rw [show esc1 34 = [92, 34] from rfl]
      simp only [List.cons_append, List.nil_append]
      rw [textL_cons, if_neg (by decide), if_neg (by decide), if_pos rfl]
      simp only [show escOf 34 = some 34 from rfl, ih]
      simp
    by_cases h92 : c = 92
    · subst h92
      rw [show esc1 92 = [92, 92] from rfl]
      simp only [List.cons_append, List.nil_append]
      rw [textL_cons, if_neg (by decide), if_neg (by decide), if_pos rfl]
      simp only [show escOf 92 = some 92 from rfl, ih]
      simp
    have hg : ¬ (c.toNat < 32 ∨ 126 < c.toNat) := by
      rcases h c (by simp) with e | e | e
      · exact absurd e h10
      · exact absurd e h9
      · omega
    rw [esc1_plain h34 h92 hg]
    simp only [List.cons_append, List.nil_append]
    rw [textL_cons, if_neg h34, if_neg hg, if_neg h92, ih]
    simp

/-! ### versions -/
theorem versionL_some {l : List UInt8} {n : Nat} (h : versionL l = some n) : ∃ a b c r, l = vtext a b c ++ r ∧ a ≤ 999999 ∧ b ≤ 999999 ∧ c ≤ 999999 ∧ NoD r ∧ n = (vtext a b c).length := by
  unfold versionL at h
  split at h
  · rename_i a r e1
    split at h
    · rename_i b r2 e2
      split at h
      · rename_i c r3 e3
        simp only [Option.some.injEq] at h
        obtain ⟨h1, a1, -, -⟩ := numL_some e1
        obtain ⟨h2, b1, -, -⟩ := numL_some e2
        obtain ⟨h3, c1, n3, -⟩ := numL_some e3
        subst h3
        subst h2
        subst h1
        refine ⟨a, b, c, r3, by simp [vtext], a1, b1, c1, n3, ?_⟩
        rw [← h]
        simp [vtext]
        omega
      · cases h
    · cases h
  · cases h
theorem versionL_back {a b c : Nat} {r : List UInt8} (ha : a ≤ 999999) (hb : b ≤ 999999) (hc : c ≤ 999999) (hr : NoD r) : versionL (vtext a b c ++ r) = some (vtext a b c).length := by
  unfold versionL vtext
  simp only [List.append_assoc, List.cons_append]
  rw [numL_dec ha (noD_dot _)]
  simp only []
  rw [numL_dec hb (noD_dot _)]
  simp only []
  rw [numL_dec hc hr]
  simp only [Option.some.injEq]
  simp
  omega
theorem noD_of {r : List UInt8} (h : ∀ b, r.head? = some b → isD b = false) : NoD r := h
/-- A run of digits with something else than a point behind it is no version's beginning. -/
theorem versionL_run {d r : List UInt8} (hd : ∀ b ∈ d, isD b = true) (hr : ∀ b, r.head? = some b → isD b = false) (hp : ∀ q, r ≠ 46 :: q) : versionL (d ++ r) = none := by
  unfold versionL
  split
  · rename_i a q e
    exfalso
    unfold numL at e
    rw [tw_stop hd hr] at e
    split at e
    · cases e
    · simp only [List.drop_left', Option.some.injEq, Prod.mk.injEq] at e
      exact hp q e.2
  · rfl

/-! ### what is told is what was read, and is read back -/
theorem itoa_dec {d : List UInt8} (hd : ∀ b ∈ d, isD b = true) (hn : d ≠ []) (hh : d.length ≤ 1 ∨ d.head? ≠ some 48) : Lib.itoa (val d : Int) = d := by
  rw [Lib.itoa_nonneg]
  exact decDigits_val _ _ rfl hd hn hh
theorem itoa_neg {d : List UInt8} (hd : ∀ b ∈ d, isD b = true) (hn : d ≠ []) (hh : d.head? ≠ some 48) : Lib.itoa (-(val d : Int)) = 45 :: d := by
  have hp := val_pos hd hn hh
  unfold Lib.itoa
  rw [if_pos (by omega)]
  congr 1
  rw [show (-(val d : Int)).natAbs = val d by omega]
  exact decDigits_val _ _ rfl hd hn (.inr hh)
theorem headD_head {d : List UInt8} (h : d.headD 0 ≠ 48) : d.head? ≠ some 48 := fun e => h (by cases d with | nil => simp at e | cons b r => simpa using e)
theorem head_tw {P : UInt8 → Bool} {l : List UInt8} (h : l.takeWhile P ≠ []) : (l.takeWhile P).headD 0 = l.headD 0 := by
  cases l with
  | nil => rfl
  | cons c r =>
    by_cases hc : P c = true
    · rw [List.takeWhile_cons_of_pos hc]; rfl
    · rw [List.takeWhile_cons_of_neg hc] at h; exact absurd rfl h
theorem intL_some {l : List UInt8} {v n : Nat} (h : intL l = some (v, n)) : ∃ d r, l = d ++ r ∧ n = d.length ∧ v = val d ∧ (∀ b ∈ d, isD b = true) ∧ NoD r ∧ d ≠ [] ∧ d.length ≤ 18 ∧ (d.length ≤ 1 ∨ d.headD 0 ≠ 48) ∧ d.headD 0 = l.headD 0 := by
  unfold intL at h
  split at h
  · cases h
  · rename_i hc
    simp only [Option.some.injEq, Prod.mk.injEq] at h
    have hc1 : l.takeWhile isD ≠ [] := fun e => hc (.inl e)
    have hc2 : ¬ 18 < (l.takeWhile isD).length := fun e => hc (.inr (.inl e))
    have hh := head_tw hc1
    refine ⟨l.takeWhile isD, l.drop (l.takeWhile isD).length, (take_takeWhile l).symm, h.2.symm, h.1.symm, tw_all isD l, noD_drop l, hc1, by omega, ?_, hh⟩
    by_cases h1 : (l.takeWhile isD).length ≤ 1
    · exact .inl h1
    · exact .inr fun e => hc (.inr (.inr ⟨by omega, hh ▸ e⟩))
theorem intL_back {d r : List UInt8} (hd : ∀ b ∈ d, isD b = true) (hr : NoD r) (hn : d ≠ []) (h18 : d.length ≤ 18) (h48 : d.length ≤ 1 ∨ d.headD 0 ≠ 48) : intL (d ++ r) = some (val d, d.length) := by
  have hh : (d ++ r).headD 0 = d.headD 0 := by cases d with | nil => exact absurd rfl hn | cons b q => rfl
  unfold intL
  rw [tw_stop hd hr, hh, if_neg]
  rintro (h | h | ⟨h1, h2⟩)
  · exact hn h
  · omega
  · rcases h48 with h | h
    · omega
    · exact h h2

theorem one_told {l : List UInt8} {t : TokL} {n : Nat} (h : oneL l = some (t, n)) : l.take n = toldL t ∧ 0 < n ∧ n ≤ l.length ∧ (∀ r, Stop r → oneL (toldL t ++ r) = some (t, n)) := by
  cases l with
  | nil => simp [oneL] at h
  | cons c l =>
    rw [oneL] at h
    split at h
    · rename_i hc
      unfold nameL at h
      split at h
      · cases h
      · rename_i h30
        simp only [Option.some.injEq, Prod.mk.injEq] at h
        obtain ⟨rfl, rfl⟩ := h
        have hN : isN c = true := by
          unfold isN isV
          simp only [Bool.or_eq_true] at hc ⊢
          rcases hc with (h | h) | h
          · simp [h]
          · simp [h]
          · simp [h]
        have hw : (c :: l).takeWhile isN = c :: l.takeWhile isN := List.takeWhile_cons_of_pos hN
        have hall := tw_all isN (c :: l)
        have hlen := tw_len isN (c :: l)
        have htk := tw_take isN (c :: l)
        have hT : toldL (nameK ((c :: l).takeWhile isN), (c :: l).takeWhile isN, 0) = (c :: l).takeWhile isN := told_name _
        refine ⟨by rw [hT]; exact htk, by rw [hw]; simp, hlen, fun r hr => ?_⟩
        rw [hT]
        have htw := tw_stop hall (stop_isN hr)
        rw [hw] at htw ⊢
        rw [List.cons_append, oneL, if_pos hc, ← List.cons_append]
        unfold nameL
        rw [htw, if_neg (by rw [← hw]; exact h30)]
    · rename_i hc
      split at h
      · rename_i h39
        subst h39
        unfold varL at h
        split at h
        · cases h
        · rename_i h30
          simp only [Option.some.injEq, Prod.mk.injEq] at h
          obtain ⟨rfl, rfl⟩ := h
          have hT : toldL (3, l.takeWhile isV, 0) = 39 :: l.takeWhile isV := rfl
          have hne : l.takeWhile isV ≠ [] := by
            cases l with
            | nil => exact absurd (.inr rfl) h30
            | cons b q =>
              have hb : isV b = true := by
                unfold isV
                cases hs : isS b with
                | true => rfl
                | false => exact absurd (.inr hs) h30
              rw [List.takeWhile_cons_of_pos hb]; simp
          refine ⟨by rw [hT, List.take_succ_cons, tw_take], by omega, by have := tw_len isV l; simp only [List.length_cons]; omega, fun r hr => ?_⟩
          rw [hT, List.cons_append, oneL, if_neg (by decide), if_pos rfl]
          have htw := tw_stop (tw_all isV l) (stop_isV hr)
          have hhd : (l.takeWhile isV ++ r).headD 0 = l.headD 0 := by
            rw [← head_tw hne]
            cases hq : l.takeWhile isV with
            | nil => exact absurd hq hne
            | cons b q => rfl
          unfold varL
          rw [htw, hhd, if_neg h30]
      · rename_i h39
        split at h
        · rename_i h34
          subst h34
          split at h
          · rename_i tx m htx
            split at h
            · rename_i h1000
              simp only [Option.some.injEq, Prod.mk.injEq] at h
              obtain ⟨rfl, rfl⟩ := h
              obtain ⟨i1, i2, i3, i4⟩ := textL_some _ l tx m (Nat.le_refl _) htx
              have hT : toldL (5, tx, 0) = 34 :: (escB tx ++ [34]) := rfl
              refine ⟨by rw [hT, List.take_succ_cons, i1], by omega, by simp only [List.length_cons]; omega, fun r hr => ?_⟩
              rw [hT, List.cons_append, oneL, if_neg (by decide), if_neg (by decide), if_pos rfl, List.append_assoc, List.singleton_append, textL_back tx r i4, i2]
              simp only []
              rw [if_pos h1000]
            · cases h
          · cases h
        · rename_i h34
          split at h
          · rename_i h45
            subst h45
            split at h
            · rename_i h62
              simp only [Option.some.injEq, Prod.mk.injEq] at h
              obtain ⟨rfl, rfl⟩ := h
              have hT : toldL (8, [45, 62], 0) = [45, 62] := rfl
              cases l with
              | nil => exact absurd h62 (by decide)
              | cons b q =>
                have hb : b = 62 := h62
                subst hb
                refine ⟨by rw [hT]; rfl, by decide, by simp, fun r hr => ?_⟩
                rw [hT]
                rfl
            · rename_i h62
              unfold negL at h
              split at h
              · rename_i v m hi
                split at h
                · cases h
                · rename_i h48
                  simp only [Option.some.injEq, Prod.mk.injEq] at h
                  obtain ⟨rfl, rfl⟩ := h
                  obtain ⟨d, q, rfl, rfl, rfl, hd, hq, hn, h18, h1, hh⟩ := intL_some hi
                  have h48' : d.headD 0 ≠ 48 := by rw [hh]; exact h48
                  have hT : toldL (4, [], -(val d : Int)) = 45 :: d := itoa_neg hd hn (headD_head h48')
                  refine ⟨by rw [hT, List.take_succ_cons, List.take_left' rfl], by omega, by simp, fun r hr => ?_⟩
                  have hhd : (d ++ r).headD 0 = d.headD 0 := by cases d with | nil => exact absurd rfl hn | cons b q => rfl
                  rw [hT, List.cons_append, oneL, if_neg (by decide), if_neg (by decide), if_neg (by decide), if_pos rfl, hhd, if_neg]
                  · unfold negL
                    rw [intL_back hd (stop_isD hr) hn h18 h1]
                    simp only []
                    rw [hhd, if_neg h48']
                  · intro e
                    rw [hh] at e
                    exact h62 e
              · cases h
          · rename_i h45
            split at h
            · rename_i hD
              unfold numTokL at h
              split at h
              · rename_i m hv
                simp only [Option.some.injEq, Prod.mk.injEq] at h
                obtain ⟨rfl, rfl⟩ := h
                obtain ⟨a, b, e, r0, hl, ha, hb, he, hr0, hm⟩ := versionL_some hv
                have htk : (c :: l).take m = vtext a b e := by rw [hl, hm, List.take_left' rfl]
                have hT : toldL (6, (c :: l).take m, 0) = vtext a b e := by rw [htk]; rfl
                have hle : m ≤ (c :: l).length := by rw [hl, hm]; simp
                have hpos : 0 < m := by
                  rw [hm]; unfold vtext; simp; omega
                obtain ⟨v0, hv0⟩ : ∃ v0, vtext a b e = c :: v0 := by
                  cases hq : vtext a b e with
                  | nil => rw [hq] at hm; simp at hm; omega
                  | cons x y => rw [hq] at hl; simp at hl; exact ⟨y, by rw [hl.1]⟩
                refine ⟨by rw [hT]; exact htk, hpos, hle, fun r hr => ?_⟩
                rw [hT]
                have hback := versionL_back ha hb he (stop_isD hr)
                have htk2 : (vtext a b e ++ r).take m = vtext a b e := by rw [hm, List.take_left' rfl]
                rw [htk]
                rw [hv0] at hback htk2 ⊢
                rw [List.cons_append] at hback htk2 ⊢
                rw [oneL, if_neg hc, if_neg h39, if_neg h34, if_neg h45, if_pos hD]
                unfold numTokL
                rw [hback]
                simp only []
                rw [← hv0, ← hm, htk2, hv0]
              · rename_i hv
                rw [Option.map_eq_some_iff] at h
                obtain ⟨⟨v, m⟩, hi, he⟩ := h
                simp only [Prod.mk.injEq] at he
                obtain ⟨rfl, rfl⟩ := he
                obtain ⟨d, q, hl, rfl, rfl, hd, hq, hn, h18, h1, hh⟩ := intL_some hi
                have h1' : d.length ≤ 1 ∨ d.head? ≠ some 48 := h1.imp id headD_head
                have hT : toldL (4, [], (val d : Int)) = d := itoa_dec hd hn h1'
                refine ⟨by rw [hT, hl, List.take_left' rfl], List.length_pos_iff.2 hn, by rw [hl]; simp, fun r hr => ?_⟩
                rw [hT]
                obtain ⟨d0, hd0⟩ : ∃ d0, d = c :: d0 := by
                  cases d with
                  | nil => exact absurd rfl hn
                  | cons x y => simp at hl; exact ⟨y, by rw [hl.1]⟩
                have hvb := versionL_run hd (stop_isD hr) (stop_dot hr)
                have hib := intL_back hd (stop_isD hr) hn h18 h1
                rw [hd0] at hvb hib ⊢
                rw [List.cons_append] at hvb hib ⊢
                rw [oneL, if_neg hc, if_neg h39, if_neg h34, if_neg h45, if_pos hD]
                unfold numTokL
                rw [hvb]
                simp only []
                rw [hib]
                rfl
            · rename_i hD
              split at h
              · rename_i hs
                simp only [Option.some.injEq, Prod.mk.injEq] at h
                obtain ⟨rfl, rfl⟩ := h
                have hT : toldL (8, [c], 0) = [c] := rfl
                refine ⟨by rw [hT]; rfl, by decide, by simp, fun r hr => ?_⟩
                rw [hT, List.singleton_append, oneL, if_neg hc, if_neg h39, if_neg h34, if_neg h45, if_neg hD, if_pos hs]
              · cases h
end Go.Proofs.YtaikpnenegifnaaGreatDoor

/- The library functions that semver calls, each as a plain function and the fact that the Go call returns what it says. -/
namespace Go.Proofs.YtaikpnenegifnaaGreatDoor
open Go.RowKit Go.Sort Go.Proofs.YtaikpnenegifnaaGreatDoorW.PrintWords

theorem below_grow_ (w : World) (k : Nat) (os : Array Obj) : Below w.heap.size w (grow (w.drewN k) os) :=
  ⟨rfl, rfl, rfl, by simp [grow, World.drewN], fun i hi => by simp [grow, World.drewN, Array.getElem?_append_left hi]⟩

/-- strings.Trim at an ASCII cutset. -/
def strings_Trim.f (a0 a1 : ByteArray) : Option ByteArray :=
  if a0.size ≤ 9223372036854775807 ∧ a1.size < 4294967281 ∧ a1.data.toList.all (fun b => decide (b.toNat < 128)) = true then some ⟨(Lib.trimS a0.data.toList a1.data.toList).toArray⟩ else none
theorem strings_Trim.calls (a0 a1 : ByteArray) (r : ByteArray) (w : World) (h : strings_Trim.f a0 a1 = some r) :
    Calls Tryz.prog 66 #[.string a0, .string a1] w fun e w' => e = .returned (.string r) ∧ Below w.heap.size w w' := by
  unfold strings_Trim.f at h
  split at h
  · rename_i hc
    obtain rfl := Option.some.inj h
    exact Tryz.strings_Trim_laid a0 a1 w hc.1 hc.2.1 (ascii_of_all hc.2.2)
  · cases h

/-- strconv.Itoa. -/
def strconv_Itoa.f (a0 : Int) : Option ByteArray :=
  if -9223372036854775808 ≤ a0 ∧ a0 ≤ 9223372036854775807 then some ⟨(Lib.itoa a0).toArray⟩ else none
theorem strconv_Itoa.calls (a0 : Int) (r : ByteArray) (w : World) (hE : EnvOk w) (h : strconv_Itoa.f a0 = some r) :
    Calls Tryz.prog 40 #[.int .i64 a0] w fun e w' => e = .returned (.string r) ∧ Below w.heap.size w w' := by
  unfold strconv_Itoa.f at h
  split at h
  · rename_i hc
    obtain rfl := Option.some.inj h
    refine (Tryz.strconv_Itoa a0 hc.1 hc.2 w hE.pow10).mono ?_
    rintro e w' ⟨rfl, k, os, rfl⟩
    exact ⟨rfl, below_grow_ _ _ _⟩
  · cases h

/-- strconv.Atoi at a text of at most 18 bytes: its number, or 0 and an error value. -/
theorem atoi18.calls (a0 : ByteArray) (w : World) (hE : EnvOk w) (hl : a0.size ≤ 18) :
    Calls Tryz.prog 67 #[.string a0] w fun e w' => ∃ ev, e = .returned (.tuple #[.int .i64 ((Lib.atoi a0.data.toList).getD 0), ev]) ∧ Below w.heap.size w w' := by
  cases h : Lib.atoi a0.data.toList with
  | some n =>
    refine (Tryz.strconv_Atoi a0 n hl h w).mono ?_
    rintro e w' ⟨rfl, t, rfl⟩
    exact ⟨_, rfl, Lib.bytesWorld_below _ _ _⟩
  | none =>
    obtain ⟨tp, p, hv⟩ := hE.syn
    refine (Tryz.strconv_Atoi_err_var a0 hl h tp p w hv).mono ?_
    rintro e w' ⟨N, rfl, _, _, hb⟩
    exact ⟨_, rfl, hb⟩
end Go.Proofs.YtaikpnenegifnaaGreatDoor

/- lex.escaped: a text in quotes, its newlines, tabs, quotes and backslashes told by two bytes. -/
namespace Go.Proofs.YtaikpnenegifnaaGreatDoor
set_option linter.unusedVariables false
set_option linter.unusedSimpArgs false
open Go Go.RowKit Go.Proofs.YtaikpnenegifnaaGreatDoorW.PrintWords

def lex_escaped.f (a0 : ByteArray) : Option ByteArray := if a0.size ≤ 1000000 then some ⟨(34 :: (escB a0.data.toList ++ [34])).toArray⟩ else none

theorem esc1_len (c : UInt8) : (esc1 c).length ≤ 2 := by
  unfold esc1
  split
  · simp
  · split
    · simp
    · split
      · simp
      · split <;> simp
theorem escB_len : ∀ l : List UInt8, (escB l).length ≤ 2 * l.length
  | [] => by simp [escB]
  | c :: l => by
    have h1 := esc1_len c
    have h2 := escB_len l
    have e : escB (c :: l) = esc1 c ++ escB l := by simp [escB]
    rw [e, List.length_append, List.length_cons]
    omega
theorem escB_snoc (l : List UInt8) (c : UInt8) : escB (l ++ [c]) = escB l ++ esc1 c := by simp [escB]
theorem esc_take {l : List UInt8} {k : Nat} (h : k < l.length) : 34 :: escB (l.take (k + 1)) = 34 :: escB (l.take k) ++ esc1 l[k] := by
  rw [List.take_succ_eq_append_getElem h, escB_snoc]; rfl
theorem bc_append (a b : List UInt8) : Lib.byteCells (a ++ b) = Lib.byteCells a ++ Lib.byteCells b := by simp [Lib.byteCells]
theorem esc_old {w w1 : World} {B : Nat} (h1 : Below B w w1) {v : Value} : True := trivial

set_option maxHeartbeats 2000000 in
theorem escaped_walk (s : ByteArray) (hs : s.size ≤ 1000000) (w : World) :
    Calls Tryz.prog 41 #[.string s] w fun e w' => e = .returned (.string ⟨(34 :: (escB s.data.toList ++ [34])).toArray⟩) ∧ Below w.heap.size w w' := by
  obtain ⟨l, el⟩ : ∃ l, s.data.toList = l := ⟨_, rfl⟩
  have hl : l.length = s.size := by rw [← el]; exact Array.length_toList
  have HL := Aside0.mk hl
  clear hl
  rw [el]
  go_enter Tryz.func41, Tryz.ntmps41
  go_wp2_with (go_at_call 75; refine (Tryz.Builder_WriteByte w.heap.size w.heap.size [] 34 _ (Lib.fresh_isBuilder _ _ w) (by simp) (by simp)).mono ?_; rintro e w1 ⟨rfl, h1, b1⟩; have H1 := Aside0.mk h1; have B1 := Aside0.mk (((Below.refl w.heap.size w).alloc (Nat.le_refl _) _).trans b1); clear h1 b1)
  go_loopw [9] (fun i wr => ∃ k : Nat, k ≤ s.size ∧ i = .int .i64 k ∧ Lib.IsBuilder 74 5 w.heap.size w.heap.size (Lib.byteCells (34 :: escB (l.take k))) wr ∧ Below w.heap.size w wr) (fun i _ => s.size + 1 - (intOf i).toNat)
  case atStart => exact ⟨0, Nat.zero_le _, rfl, .inr H1.out, B1.out⟩
  case round =>
    obtain ⟨k, hk, rfl, hI, hB⟩ := hrel
    have hlen : (34 :: escB (l.take k)).length ≤ 2000001 := by
      have h1 := escB_len (l.take k)
      have h2 := HL.out
      rw [List.length_cons]
      rw [List.length_take] at h1
      omega
    have hsz := hB.size
    have HI := Aside0.mk hI
    have HB := Aside0.mk hB
    have HN := Aside0.mk hlen
    clear hI hB hlen
    by_cases hlt : k < s.size
    · have d1 : decide ((k : Int) < (s.size : Int)) = true := decide_eq_true (by omega)
      have q1 := eq_true (show (0 : Int) ≤ (k : Int) by omega)
      have q2 : ((k : Int) < (s.size : Int)) = True := eq_true (by omega)
      have hget : s[k]'hlt = l[k]'(by rw [HL.out]; exact hlt) := by subst el; rfl
      have HE := Aside0.mk (esc_take (l := l) (k := k) (by rw [HL.out]; exact hlt))
      rw [← hget] at HE
      have c255 := (s[k]'hlt).toNat_lt
      have hx := bt_at s (k : Int)
      clear hget
      by_cases h10 : (s[k]'hlt).toNat = 10
      · have e10 : (((s[k]'hlt).toNat : Int) == 10) = true := by rw [h10]; rfl
        have e9 : (((s[k]'hlt).toNat : Int) == 9) = false := by rw [h10]; rfl
        have es : esc1 (s[k]'hlt) = [92, 110] := by rw [show s[k]'hlt = 10 from UInt8.toNat_inj.1 h10]; rfl
        have ES := Aside0.mk es
        clear es
        go_wp2_with (go_at_call 43; refine (Tryz.Builder_WriteString w.heap.size w.heap.size _ _ _ HI.out (by rw [Lib.byteCells_length]; exact Nat.le_trans (Nat.add_le_add_right HN.out 2) (by decide)) (by omega)).mono ?_; rintro e w2 ⟨rfl, h2, b2⟩; have H2 := Aside0.mk h2; have B2 := Aside0.mk (HB.out.trans b2); clear h2 b2)
        refine ⟨⟨k + 1, by omega, by simp, ?_, B2.out⟩, by simp [intOf]; omega⟩
        have hE := HE.out
        rw [hE, bc_append, ES.out]
        exact .inr H2.out
      by_cases h9 : (s[k]'hlt).toNat = 9
      · have e10 : (((s[k]'hlt).toNat : Int) == 10) = false := by rw [h9]; rfl
        have e9 : (((s[k]'hlt).toNat : Int) == 9) = true := by rw [h9]; rfl
        have es : esc1 (s[k]'hlt) = [92, 116] := by rw [show s[k]'hlt = 9 from UInt8.toNat_inj.1 h9]; rfl
        have ES := Aside0.mk es
        clear es
        go_wp2_with (go_at_call 43; refine (Tryz.Builder_WriteString w.heap.size w.heap.size _ _ _ HI.out (by rw [Lib.byteCells_length]; exact Nat.le_trans (Nat.add_le_add_right HN.out 2) (by decide)) (by omega)).mono ?_; rintro e w2 ⟨rfl, h2, b2⟩; have H2 := Aside0.mk h2; have B2 := Aside0.mk (HB.out.trans b2); clear h2 b2)
        refine ⟨⟨k + 1, by omega, by simp, ?_, B2.out⟩, by simp [intOf]; omega⟩
        have hE := HE.out
        rw [hE, bc_append, ES.out]
        exact .inr H2.out
      have e10 : (((s[k]'hlt).toNat : Int) == 10) = false := by rw [beq_eq_false_iff_ne]; omega
      have e9 : (((s[k]'hlt).toNat : Int) == 9) = false := by rw [beq_eq_false_iff_ne]; omega
      by_cases h34 : (s[k]'hlt).toNat = 34
      · have e34 : (((s[k]'hlt).toNat : Int) == 34) = true := by rw [h34]; rfl
        have e92 : (((s[k]'hlt).toNat : Int) == 92) = false := by rw [h34]; rfl
        have es : esc1 (s[k]'hlt) = [92, 34] := by rw [show s[k]'hlt = 34 from UInt8.toNat_inj.1 h34]; rfl
        have ES := Aside0.mk es
        clear es
        go_wp2_with (first | (go_at_call 75; refine (Tryz.Builder_WriteByte w.heap.size w.heap.size _ _ _ (.inr H2.out) (by rw [List.length_append, Lib.byteCells_length]; exact Nat.le_trans (Nat.add_le_add_right (Nat.add_le_add_right HN.out 1) 1) (by decide)) (by omega)).mono ?_; rintro e w3 ⟨rfl, h3, b3⟩; have H3 := Aside0.mk h3; have B3 := Aside0.mk (B2.out.trans b3); clear h3 b3) | (go_at_call 75; refine (Tryz.Builder_WriteByte w.heap.size w.heap.size _ _ _ HI.out (by rw [Lib.byteCells_length]; exact Nat.le_trans (Nat.add_le_add_right HN.out 1) (by decide)) (by omega)).mono ?_; rintro e w2 ⟨rfl, h2, b2⟩; have H2 := Aside0.mk h2; have hz2 := b2.size; have B2 := Aside0.mk (HB.out.trans b2); clear h2 b2))
        refine ⟨⟨k + 1, by omega, by simp, ?_, B3.out⟩, by simp [intOf]; omega⟩
        have hE := HE.out
        rw [hE, bc_append, ES.out]
        have h3 := H3.out
        rw [List.append_assoc] at h3
        exact .inr h3
      by_cases h92 : (s[k]'hlt).toNat = 92
      · have e34 : (((s[k]'hlt).toNat : Int) == 34) = false := by rw [h92]; rfl
        have e92 : (((s[k]'hlt).toNat : Int) == 92) = true := by rw [h92]; rfl
        have es : esc1 (s[k]'hlt) = [92, 92] := by rw [show s[k]'hlt = 92 from UInt8.toNat_inj.1 h92]; rfl
        have ES := Aside0.mk es
        clear es
        go_wp2_with (first | (go_at_call 75; refine (Tryz.Builder_WriteByte w.heap.size w.heap.size _ _ _ (.inr H2.out) (by rw [List.length_append, Lib.byteCells_length]; exact Nat.le_trans (Nat.add_le_add_right (Nat.add_le_add_right HN.out 1) 1) (by decide)) (by omega)).mono ?_; rintro e w3 ⟨rfl, h3, b3⟩; have H3 := Aside0.mk h3; have B3 := Aside0.mk (B2.out.trans b3); clear h3 b3) | (go_at_call 75; refine (Tryz.Builder_WriteByte w.heap.size w.heap.size _ _ _ HI.out (by rw [Lib.byteCells_length]; exact Nat.le_trans (Nat.add_le_add_right HN.out 1) (by decide)) (by omega)).mono ?_; rintro e w2 ⟨rfl, h2, b2⟩; have H2 := Aside0.mk h2; have hz2 := b2.size; have B2 := Aside0.mk (HB.out.trans b2); clear h2 b2))
        refine ⟨⟨k + 1, by omega, by simp, ?_, B3.out⟩, by simp [intOf]; omega⟩
        have hE := HE.out
        rw [hE, bc_append, ES.out]
        have h3 := H3.out
        rw [List.append_assoc] at h3
        exact .inr h3
      have e34 : (((s[k]'hlt).toNat : Int) == 34) = false := by rw [beq_eq_false_iff_ne]; omega
      have e92 : (((s[k]'hlt).toNat : Int) == 92) = false := by rw [beq_eq_false_iff_ne]; omega
      have es : esc1 (s[k]'hlt) = [s[k]'hlt] := by
        unfold esc1
        rw [if_neg (fun e => h10 (by rw [e]; rfl)), if_neg (fun e => h9 (by rw [e]; rfl)), if_neg (fun e => h34 (by rw [e]; rfl)), if_neg (fun e => h92 (by rw [e]; rfl))]
      have ES := Aside0.mk es
      clear es
      go_wp2_with (go_at_call 75; refine (Tryz.Builder_WriteByte w.heap.size w.heap.size _ _ _ HI.out (by rw [Lib.byteCells_length]; exact Nat.le_trans (Nat.add_le_add_right HN.out 1) (by decide)) (by omega)).mono ?_; rintro e w2 ⟨rfl, h2, b2⟩; have H2 := Aside0.mk h2; have hz2 := b2.size; have B2 := Aside0.mk (HB.out.trans b2); clear h2 b2)
      refine ⟨⟨k + 1, by omega, by simp, ?_, B2.out⟩, by simp [intOf]; omega⟩
      have hE := HE.out
      rw [hE, bc_append, ES.out]
      exact .inr H2.out
    · have d1 : decide ((k : Int) < (s.size : Int)) = false := decide_eq_false (by omega)
      have hks : k = s.size := by omega
      have ht : l.take k = l := List.take_of_length_le (by have := HL.out; omega)
      rw [ht] at HI HN
      clear ht
      go_wp2_with (first | (go_at_call 44; refine (Tryz.Builder_String_any w.heap.size w.heap.size (34 :: (escB l ++ [34])) _ (.inr (by have h2 := H2.out; simpa [Lib.byteCells] using h2)) (by omega)).mono ?_; rintro e w3 ⟨rfl, b3⟩; have B3 := Aside0.mk (B2.out.trans b3); clear b3) | (go_at_call 75; refine (Tryz.Builder_WriteByte w.heap.size w.heap.size _ _ _ HI.out (by rw [Lib.byteCells_length]; exact Nat.le_trans (Nat.add_le_add_right HN.out 1) (by decide)) (by omega)).mono ?_; rintro e w2 ⟨rfl, h2, b2⟩; have H2 := Aside0.mk h2; have hz2 := b2.size; have B2 := Aside0.mk (HB.out.trans b2); clear h2 b2))
      go_ret
      exact ⟨rfl, B3.out⟩
theorem lex_escaped.calls (a0 : ByteArray) (r : ByteArray) (w : World) (h : lex_escaped.f a0 = some r) :
    Calls Tryz.prog 41 #[.string a0] w fun e w' => e = .returned (.string r) ∧ Below w.heap.size w w' := by
  unfold lex_escaped.f at h
  split at h
  · rename_i hs
    obtain rfl := Option.some.inj h
    exact escaped_walk a0 hs w
  · cases h
end Go.Proofs.YtaikpnenegifnaaGreatDoor

/- strings.IndexByte: what it returns, for every text and byte. -/
namespace Go.Proofs.YtaikpnenegifnaaGreatDoor
open Go.RowKit Go.Proofs.YtaikpnenegifnaaGreatDoorW.PrintWords
def strings_IndexByte.f (a0 : ByteArray) (a1 : Int) : Option Int := some (Lib.indexByte a0.data.toList a1.toNat.toUInt8)
theorem strings_IndexByte.calls (a0 : ByteArray) (a1 : Int) (r : Int) (w : World) (h : strings_IndexByte.f a0 a1 = some r) :
    Calls Tryz.prog 64 #[.string a0, .int .u8 a1] w fun e w' => e = .returned (.int .i64 r) ∧ Drawn0 w w' := by
  unfold strings_IndexByte.f at h
  obtain rfl := Option.some.inj h
  exact (Tryz.strings_IndexByte a0 a1 w).mono fun e w' ⟨he, hw⟩ => ⟨he, by rw [hw]; exact Drawn0.refl _⟩
end Go.Proofs.YtaikpnenegifnaaGreatDoor
