/- The library functions that semver calls, each as a plain function and the fact that the Go call returns what it says. -/
import Derived.Test.YtaikpnenegifnaaGreatDoorXBase
import Derived.Test.YtaikpnenegifnaaGreatDoorShelf
import Derived.Test.YtaikpnenegifnaaGreatDoorWWords
import Derived.Lib.AtoiErrMem
import Derived.Sort.Grow
namespace Go.Proofs.YtaikpnenegifnaaGreatDoor
open Go.RowKit Go.Sort Go.Proofs.YtaikpnenegifnaaGreatDoorW.PrintWords

theorem below_grow_ (w : World) (k : Nat) (os : Array Obj) : Below w.heap.size w (grow (w.drewN k) os) :=
  ⟨rfl, rfl, rfl, by simp [grow, World.drewN], fun i hi => by simp [grow, World.drewN, Array.getElem?_append_left hi]⟩

/-- strings.Trim at an ASCII cutset. -/
def strings_Trim.f (a0 a1 : ByteArray) : Option ByteArray :=
  if a0.size ≤ 9223372036854775807 ∧ a1.size < 4294967281 ∧ a1.data.toList.all (fun b => decide (b.toNat < 128)) = true then some ⟨(Lib.trimS a0.data.toList a1.data.toList).toArray⟩ else none
theorem strings_Trim.calls (a0 a1 : ByteArray) (r : ByteArray) (w : World) (h : strings_Trim.f a0 a1 = some r) :
    Calls Tryz.prog 66 #[.string a0, .string a1] w fun e w' => e = .returned (.string r) ∧ Below w.heap.size w w' := by
  unfold strings_Trim.f at h
  split at h
  · rename_i hc
    obtain rfl := Option.some.inj h
    exact Tryz.strings_Trim_laid a0 a1 w hc.1 hc.2.1 (ascii_of_all hc.2.2)
  · cases h

/-- strconv.Itoa. -/
def strconv_Itoa.f (a0 : Int) : Option ByteArray :=
  if -9223372036854775808 ≤ a0 ∧ a0 ≤ 9223372036854775807 then some ⟨(Lib.itoa a0).toArray⟩ else none
theorem strconv_Itoa.calls (a0 : Int) (r : ByteArray) (w : World) (hE : EnvOk w) (h : strconv_Itoa.f a0 = some r) :
    Calls Tryz.prog 40 #[.int .i64 a0] w fun e w' => e = .returned (.string r) ∧ Below w.heap.size w w' := by
  unfold strconv_Itoa.f at h
  split at h
  · rename_i hc
    obtain rfl := Option.some.inj h
    refine (Tryz.strconv_Itoa a0 hc.1 hc.2 w hE.pow10).mono ?_
    rintro e w' ⟨rfl, k, os, rfl⟩
    exact ⟨rfl, below_grow_ _ _ _⟩
  · cases h

/-- strconv.Atoi at a text of at most 18 bytes: its number, or 0 and an error value. -/
theorem strconv_Atoi.calls (a0 : ByteArray) (w : World) (hE : EnvOk w) (hl : a0.size ≤ 18) :
    Calls Tryz.prog 67 #[.string a0] w fun e w' => ∃ ev, e = .returned (.tuple #[.int .i64 ((Lib.atoi a0.data.toList).getD 0), ev]) ∧ Below w.heap.size w w' := by
  cases h : Lib.atoi a0.data.toList with
  | some n =>
    refine (Tryz.strconv_Atoi a0 n hl h w).mono ?_
    rintro e w' ⟨rfl, t, rfl⟩
    exact ⟨_, rfl, Lib.bytesWorld_below _ _ _⟩
  | none =>
    obtain ⟨tp, p, hv⟩ := hE.syn
    refine (Tryz.strconv_Atoi_err_var a0 hl h tp p w hv).mono ?_
    rintro e w' ⟨N, rfl, _, _, hb⟩
    exact ⟨_, rfl, hb⟩
end Go.Proofs.YtaikpnenegifnaaGreatDoor
