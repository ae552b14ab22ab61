/- A plain run of a function's loaded form over data that are not known, and that what it answers the program answers: part 0. -/
import GoSem.Core.Code
import GoSem.Dispatch
import Derived.Deep.AppendSrc
import Derived.Orders
import Derived.Defers
import Derived.Below
import Derived.Laws.IdiomCopy
import Derived.Deep.Upon
section
namespace Px
set_option linter.unusedVariables false
/-- A trie over numbers. -/
inductive T (α : Type) where
  | leaf
  | node (l : T α) (v : Option α) (r : T α)
theorem rec_true {β : Type} (a b : β) {c : Bool} (h : c = true) : @Bool.rec (fun _ => β) a b c = b := by subst h; rfl
theorem rec_false {β : Type} (a b : β) {c : Bool} (h : c = false) : @Bool.rec (fun _ => β) a b c = a := by subst h; rfl
theorem beq_yes {a b : Nat} (h : a = b) : Nat.beq a b = true := by rw [Nat.beq_eq]; exact h
theorem beq_no {a b : Nat} (h : ¬ a = b) : Nat.beq a b = false := by
  cases e : Nat.beq a b with
  | false => rfl
  | true => exact absurd ((Nat.beq_eq ▸ e : a = b)) h
namespace T
variable {α : Type}
noncomputable def look (t : T α) : Nat → Option α :=
  @T.rec α (fun _ => Nat → Option α) (fun _ => none) (fun _ v _ ihl ihr k => @Bool.rec (fun _ => Option α) (@Bool.rec (fun _ => Option α) (ihr (Nat.div (Nat.sub k 1) 2)) (ihl (Nat.div k 2)) (Nat.beq (Nat.mod k 2) 1)) v (Nat.beq k 0)) t
noncomputable def one (x : α) (f : Nat) : Nat → T α :=
  @Nat.rec (fun _ => Nat → T α) (fun _ => .node .leaf (some x) .leaf) (fun _ ih k => @Bool.rec (fun _ => T α) (@Bool.rec (fun _ => T α) (.node .leaf none (ih (Nat.div (Nat.sub k 1) 2))) (.node (ih (Nat.div k 2)) none .leaf) (Nat.beq (Nat.mod k 2) 1)) (.node .leaf (some x) .leaf) (Nat.beq k 0)) f
noncomputable def put (x : α) (t : T α) : Nat → T α :=
  @T.rec α (fun _ => Nat → T α) (fun k => one x k k) (fun l v r ihl ihr k => @Bool.rec (fun _ => T α) (@Bool.rec (fun _ => T α) (.node l v (ihr (Nat.div (Nat.sub k 1) 2))) (.node (ihl (Nat.div k 2)) v r) (Nat.beq (Nat.mod k 2) 1)) (.node l (some x) r) (Nat.beq k 0)) t
theorem look_leaf (k : Nat) : look (leaf : T α) k = none := rfl
theorem look_node (l r : T α) (v : Option α) (k : Nat) : look (.node l v r) k = if k = 0 then v else if k % 2 = 1 then look l (k / 2) else look r ((k - 1) / 2) := by
  show @Bool.rec (fun _ => Option α) (@Bool.rec (fun _ => Option α) (look r ((k - 1) / 2)) (look l (k / 2)) (Nat.beq (k % 2) 1)) v (Nat.beq k 0) = _
  by_cases h : k = 0
  · rw [rec_true _ _ (beq_yes h), if_pos h]
  · rw [rec_false _ _ (beq_no h), if_neg h]
    by_cases h1 : k % 2 = 1
    · rw [rec_true _ _ (beq_yes h1), if_pos h1]
    · rw [rec_false _ _ (beq_no h1), if_neg h1]
theorem put_node (x : α) (l r : T α) (v : Option α) (k : Nat) : put x (.node l v r) k = if k = 0 then .node l (some x) r else if k % 2 = 1 then .node (put x l (k / 2)) v r else .node l v (put x r ((k - 1) / 2)) := by
  show @Bool.rec (fun _ => T α) (@Bool.rec (fun _ => T α) (.node l v (put x r ((k - 1) / 2))) (.node (put x l (k / 2)) v r) (Nat.beq (k % 2) 1)) (.node l (some x) r) (Nat.beq k 0) = _
  by_cases h : k = 0
  · rw [rec_true _ _ (beq_yes h), if_pos h]
  · rw [rec_false _ _ (beq_no h), if_neg h]
    by_cases h1 : k % 2 = 1
    · rw [rec_true _ _ (beq_yes h1), if_pos h1]
    · rw [rec_false _ _ (beq_no h1), if_neg h1]
theorem one_succ (x : α) (f k : Nat) : one x (f + 1) k = if k = 0 then .node .leaf (some x) .leaf else if k % 2 = 1 then .node (one x f (k / 2)) none .leaf else .node .leaf none (one x f ((k - 1) / 2)) := by
  show @Bool.rec (fun _ => T α) (@Bool.rec (fun _ => T α) (.node .leaf none (one x f ((k - 1) / 2))) (.node (one x f (k / 2)) none .leaf) (Nat.beq (k % 2) 1)) (.node .leaf (some x) .leaf) (Nat.beq k 0) = _
  by_cases h : k = 0
  · rw [rec_true _ _ (beq_yes h), if_pos h]
  · rw [rec_false _ _ (beq_no h), if_neg h]
    by_cases h1 : k % 2 = 1
    · rw [rec_true _ _ (beq_yes h1), if_pos h1]
    · rw [rec_false _ _ (beq_no h1), if_neg h1]
theorem look_one (x : α) : ∀ (f k j : Nat), k ≤ f → look (one x f k) j = if j = k then some x else none := by
  intro f
  induction f with
  | zero =>
    intro k j hk
    have : k = 0 := by omega
    subst this
    show look (.node .leaf (some x) .leaf) j = _
    rw [look_node]
    by_cases h : j = 0
    · simp [h]
    · simp [h, look_leaf]
  | succ f ih =>
    intro k j hk
    rw [one_succ]
    by_cases h : k = 0
    · rw [if_pos h, look_node]
      by_cases h' : j = 0
      · simp [h', h]
      · rw [if_neg h', if_neg (show ¬ j = k by omega)]; simp [look_leaf]
    · rw [if_neg h]
      by_cases h1 : k % 2 = 1
      · rw [if_pos h1, look_node]
        by_cases h' : j = 0
        · rw [if_pos h', if_neg (by omega)]
        · rw [if_neg h', ih _ _ (by omega)]
          by_cases h2 : j % 2 = 1
          · rw [if_pos h2]
            by_cases e : j = k
            · rw [if_pos e, if_pos (by omega)]
            · rw [if_neg e, if_neg (by omega)]
          · rw [if_neg h2, look_leaf, if_neg (by omega)]
      · rw [if_neg h1, look_node]
        by_cases h' : j = 0
        · rw [if_pos h', if_neg (by omega)]
        · rw [if_neg h', ih _ _ (by omega)]
          by_cases h2 : j % 2 = 1
          · rw [if_pos h2, look_leaf, if_neg (by omega)]
          · rw [if_neg h2]
            by_cases e : j = k
            · rw [if_pos e, if_pos (by omega)]
            · rw [if_neg e, if_neg (by omega)]
theorem look_put (x : α) (t : T α) : ∀ (k j : Nat), look (put x t k) j = if j = k then some x else look t j := by
  induction t with
  | leaf => intro k j; show look (one x k k) j = _; rw [look_one x k k j (Nat.le_refl _), look_leaf]
  | node l v r ihl ihr =>
    intro k j
    rw [put_node]
    by_cases h : k = 0
    · rw [if_pos h, look_node, look_node]
      by_cases h' : j = 0
      · rw [if_pos h', if_pos (by omega)]
      · rw [if_neg h', if_neg h', if_neg (show ¬ j = k by omega)]
    · rw [if_neg h]
      by_cases h1 : k % 2 = 1
      · rw [if_pos h1, look_node, look_node]
        by_cases h' : j = 0
        · rw [if_pos h', if_pos h', if_neg (by omega)]
        · rw [if_neg h', if_neg h']
          by_cases h2 : j % 2 = 1
          · rw [if_pos h2, if_pos h2, ihl]
            by_cases e : j = k
            · rw [if_pos e, if_pos (by omega)]
            · rw [if_neg e, if_neg (by omega)]
          · rw [if_neg h2, if_neg h2, if_neg (by omega)]
      · rw [if_neg h1, look_node, look_node]
        by_cases h' : j = 0
        · rw [if_pos h', if_pos h', if_neg (by omega)]
        · rw [if_neg h', if_neg h']
          by_cases h2 : j % 2 = 1
          · rw [if_pos h2, if_pos h2, if_neg (by omega)]
          · rw [if_neg h2, if_neg h2, ihr]
            by_cases e : j = k
            · rw [if_pos e, if_pos (by omega)]
            · rw [if_neg e, if_neg (by omega)]
theorem look_put_same (x : α) (t : T α) (k : Nat) : look (put x t k) k = some x := by rw [look_put, if_pos rfl]
theorem look_put_ne (x : α) (t : T α) {k j : Nat} (h : j ≠ k) : look (put x t k) j = look t j := by rw [look_put, if_neg h]
/-- A list as a trie. -/
noncomputable def ofL (l : List α) (k : Nat) (t : T α) : T α := @List.rec α (fun _ => Nat → T α → T α) (fun _ t => t) (fun x _ ih k t => ih (Nat.succ k) (put x t k)) l k t
theorem ofL_cons (x : α) (l : List α) (k : Nat) (t : T α) : ofL (x :: l) k t = ofL l (k + 1) (put x t k) := rfl
theorem look_ofL (l : List α) : ∀ (k : Nat) (t : T α) (j : Nat), look (ofL l k t) j = if k ≤ j ∧ j < k + l.length then l[j - k]? else look t j := by
  induction l with
  | nil => intro k t j; rw [if_neg (by intro h; simp at h; omega)]; rfl
  | cons x l ih =>
    intro k t j
    rw [ofL_cons, ih, look_put]
    by_cases h : k + 1 ≤ j ∧ j < k + 1 + l.length
    · rw [if_pos h, if_pos (by simp; omega)]
      obtain ⟨m, hm⟩ : ∃ m, j - k = m + 1 := ⟨j - k - 1, by omega⟩
      rw [hm, List.getElem?_cons_succ]
      exact congrArg _ (by omega)
    · rw [if_neg h]
      by_cases e : j = k
      · subst e; rw [if_pos rfl, if_pos (by simp)]; simp
      · rw [if_neg e, if_neg (by simp; omega)]
theorem look_ofL0 (l : List α) (j : Nat) : look (ofL l 0 .leaf) j = l[j]? := by
  rw [look_ofL]
  by_cases h : j < l.length
  · rw [if_pos (by omega)]
    simp
  · rw [if_neg (by omega), look_leaf, List.getElem?_eq_none (by omega)]
end T
end Px
end

section
namespace Px
open Go
/-- Plain data: numbers, truth values, texts, and rows of data (a struct's fields, a slice's elements). -/
inductive PV where
  | int (n : Int)
  | bool (b : Bool)
  | str (s : List Nat)
  | node (ps : List PV)
def PV.i : PV → Int | .int n => n | _ => 0
def PV.b : PV → Bool | .bool b => b | _ => false
def PV.s : PV → List Nat | .str s => s | _ => []
def PV.l : PV → List PV | .node l => l | _ => []
def PV.at (p : PV) (i : Nat) : PV := p.l.getD i (.node [])
/-! Data's own functions: what they come to is looked into by no step of the plain run. -/
def notB (b : Bool) : Bool := !b
def andB (a b : Bool) : Bool := a && b
def eqB (a b : Bool) : Bool := a == b
def eqI (x y : Int) : Bool := x == y
def ltI (x y : Int) : Bool := decide (x < y)
def leI (x y : Int) : Bool := decide (x ≤ y)
def minI (x y : Int) : Int := bif decide (x < y) then x else y
def maxI (x y : Int) : Int := bif decide (x < y) then y else x
def lenP (es : List PV) : Int := (es.length : Int)
def lenS (s : List Nat) : Int := (s.length : Int)
def getP (es : List PV) (n : Int) : PV := es.getD n.toNat (.node [])
def setP (es : List PV) (n : Int) (p : PV) : List PV := es.set n.toNat p
def appP (a b : List PV) : List PV := a ++ b
def appS (a b : List Nat) : List Nat := a ++ b
def repP (n : Int) (p : PV) : List PV := List.replicate n.toNat p
def getS (s : List Nat) (n : Int) : Int := Int.ofNat (s.getD n.toNat 0)
def pickS (ss : List (List Nat)) (n : Int) : List Nat := ss.getD n.toNat []
def eqS (a b : List Nat) : Bool := a == b
def bytesLt : List Nat → List Nat → Bool
  | _, [] => false
  | [], _ :: _ => true
  | a :: x, b :: y => Nat.blt a b || (Nat.beq a b && bytesLt x y)
def ltS (a b : List Nat) : Bool := bytesLt a b
def leS (a b : List Nat) : Bool := bytesLt a b || a == b
def cutP (es : List PV) (l h : Int) : List PV := (es.drop l.toNat).take (h.toNat - l.toNat)
def cutS (s : List Nat) (l h : Int) : List Nat := (s.drop l.toNat).take (h.toNat - l.toNat)
def smallP (a b : List PV) : Bool := Nat.blt (a.length + b.length) 1000000
def smallS (a b : List Nat) : Bool := Nat.blt (a.length + b.length) 1000000
def inP (es : List PV) (n : Int) : Bool := decide (0 ≤ n) && decide (n < (es.length : Int))
def inS (s : List Nat) (n : Int) : Bool := decide (0 ≤ n) && decide (n < (s.length : Int))
def inN (m : Nat) (n : Int) : Bool := decide (0 ≤ n) && decide (n < (m : Int))
def cutOk (l h n : Int) : Bool := decide (0 ≤ l) && (decide (l ≤ h) && decide (h ≤ n))
def isByte (p : PV) : Bool := decide (0 ≤ p.i) && decide (p.i < 256)
def allByte (es : List PV) : Bool := es.all isByte
def bytesP (s : List Nat) : List PV := s.map fun b => .int (Int.ofNat b)
def textP (es : List PV) : List Nat := es.map fun p => p.i.toNat
/-- Values of the plain run: memory is named by numbers of its own; data may be told as a whole (pv), an element of what never turns by fp, a slice that may be appended to by vs, one that is filled by ar. -/
inductive AV where
  | bool (b : Bool)
  | int (k : IntKind) (n : Int)
  | str (s : List Nat)
  | ptr (a : Option (Nat × Nat))
  | glob (g off : Nat)
  | nils
  | pv (t : TypeId) (p : PV)
  | fp (t : TypeId) (p : PV)
  | vs (x ver : Nat) (t : TypeId) (es : List PV)
  | ar (x : Nat) (t : TypeId)
  | ap (x : Nat) (t : TypeId) (i : Int)
  | map (r : Option Nat)
  | func (fn : Fn) (first captured : List AV)
  | nilFunc
  | iface (t : TypeId) (v : AV)
  | nilIface
  | agg (cs : List AV)
  | tuple (vs : List AV)
  | dead
/-- What a name leads to: a variable, the right to append to a slice, a slice that is filled, a map. -/
inductive AObj where
  | box (t : TypeId) (v : AV)
  | vec (t : TypeId) (ver : Nat)
  | arr (t : TypeId) (es : List PV)
  | map (es : List (AV × AV × Nat)) (clock : Nat)
  | dead

/-- What a part of the plain run has touched of what was there: names, and whether written. -/
structure Foot where
  keys : List Nat
  mark : T Bool
def Foot.empty : Foot := ⟨[], .leaf⟩
noncomputable def Foot.add (F : Foot) (x : Nat) (wr : Bool) : Foot :=
  @Option.rec Bool (fun _ => Foot) ⟨x :: F.keys, F.mark.put wr x⟩ (fun b => @Bool.rec (fun _ => Foot) (@Bool.rec (fun _ => Foot) F ⟨F.keys, F.mark.put true x⟩ wr) F b) (F.mark.look x)
def Foot.has (F : Foot) (x : Nat) : Prop := F.mark.look x ≠ none
def Foot.wrote (F : Foot) (x : Nat) : Prop := F.mark.look x = some true
theorem Foot.wrote_has {F : Foot} {x : Nat} (h : F.wrote x) : F.has x := by unfold Foot.wrote at h; unfold Foot.has; rw [h]; simp
def Foot.ok (F : Foot) : Prop := ∀ x, F.has x → x ∈ F.keys
theorem Foot.look_empty (x : Nat) : Foot.empty.mark.look x = none := rfl
theorem Foot.add_eq (F : Foot) (x : Nat) (wr : Bool) : F.add x wr = match F.mark.look x with
    | none => ⟨x :: F.keys, F.mark.put wr x⟩
    | some true => F
    | some false => if wr then ⟨F.keys, F.mark.put true x⟩ else F := by
  unfold Foot.add
  cases F.mark.look x with
  | none => rfl
  | some b => cases b <;> cases wr <;> rfl
theorem Foot.look_add (F : Foot) (x : Nat) (wr : Bool) (y : Nat) : (F.add x wr).mark.look y = if y = x then some (wr || (F.mark.look x == some true)) else F.mark.look y := by
  rw [Foot.add_eq]
  cases h : F.mark.look x with
  | none => simp [T.look_put]
  | some b =>
    cases b with
    | true =>
      by_cases e : y = x
      · subst e; simp [h]
      · simp [e]
    | false =>
      cases wr with
      | true => simp [T.look_put]
      | false =>
        by_cases e : y = x
        · subst e; simp [h]
        · simp [e]
theorem Foot.has_add {F : Foot} {x : Nat} {wr : Bool} {y : Nat} : (F.add x wr).has y ↔ y = x ∨ F.has y := by
  unfold Foot.has; rw [Foot.look_add]
  by_cases e : y = x <;> simp [e]
theorem Foot.wrote_add {F : Foot} {x : Nat} {wr : Bool} {y : Nat} : (F.add x wr).wrote y ↔ (y = x ∧ wr = true) ∨ F.wrote y := by
  unfold Foot.wrote; rw [Foot.look_add]
  by_cases e : y = x
  · subst e; cases wr <;> simp
  · simp [e]
theorem Foot.ok_add {F : Foot} (h : F.ok) (x : Nat) (wr : Bool) : (F.add x wr).ok := by
  intro y hy
  rw [Foot.add_eq]
  rcases Foot.has_add.1 hy with rfl | hy
  · cases e : F.mark.look y with
    | none => simp
    | some b =>
      have : y ∈ F.keys := h y (by unfold Foot.has; rw [e]; simp)
      cases b <;> cases wr <;> simpa using this
  · have := h y hy
    cases e : F.mark.look x with
    | none => simp [this]
    | some b => cases b <;> cases wr <;> simpa using this
/-- Touching what was there before number b. -/
noncomputable def Foot.touch (F : Foot) (b x : Nat) (wr : Bool) : Foot := @Bool.rec (fun _ => Foot) F (F.add x wr) (Nat.blt x b)
theorem blt_yes {a b : Nat} (h : a < b) : Nat.blt a b = true := by rw [Nat.blt_eq]; exact h
theorem blt_no {a b : Nat} (h : ¬ a < b) : Nat.blt a b = false := by
  cases e : Nat.blt a b with
  | false => rfl
  | true => exact absurd (Nat.blt_eq ▸ e : a < b) h
theorem Foot.touch_eq (F : Foot) (b x : Nat) (wr : Bool) : F.touch b x wr = if x < b then F.add x wr else F := by
  unfold Foot.touch
  by_cases h : x < b
  · rw [rec_true _ _ (blt_yes h), if_pos h]
  · rw [rec_false _ _ (blt_no h), if_neg h]
theorem Foot.has_touch {F : Foot} {b x : Nat} {wr : Bool} {y : Nat} : (F.touch b x wr).has y ↔ (y = x ∧ x < b) ∨ F.has y := by
  rw [Foot.touch_eq]; split <;> simp [Foot.has_add, *]
theorem Foot.wrote_touch {F : Foot} {b x : Nat} {wr : Bool} {y : Nat} : (F.touch b x wr).wrote y ↔ (y = x ∧ x < b ∧ wr = true) ∨ F.wrote y := by
  rw [Foot.touch_eq]; split <;> simp [Foot.wrote_add, *]
theorem Foot.ok_touch {F : Foot} (h : F.ok) (b x : Nat) (wr : Bool) : (F.touch b x wr).ok := by
  rw [Foot.touch_eq]; split
  · exact Foot.ok_add h _ _
  · exact h
/-- A part's touches, told of the whole. -/
noncomputable def Foot.mergeL (b : Nat) (m : T Bool) (l : List Nat) (F : Foot) : Foot :=
  @List.rec Nat (fun _ => Foot → Foot) (fun F => F) (fun x _ ih F => ih (F.touch b x (@Option.rec Bool (fun _ => Bool) true (fun c => c) (m.look x)))) l F
noncomputable def Foot.merge (F : Foot) (b : Nat) (F1 : Foot) : Foot := @Bool.rec (fun _ => Foot) (Foot.mergeL b F1.mark F1.keys F) F (Nat.beq b 0)
theorem Foot.mergeL_spec (b : Nat) (m : T Bool) (l : List Nat) : ∀ (F : Foot), (∀ y, (Foot.mergeL b m l F).has y ↔ (y ∈ l ∧ y < b) ∨ F.has y) ∧ (∀ y, (Foot.mergeL b m l F).wrote y ↔ (y ∈ l ∧ y < b ∧ m.look y ≠ some false) ∨ F.wrote y) ∧ (F.ok → (Foot.mergeL b m l F).ok) := by
  induction l with
  | nil => intro F; exact ⟨fun y => by show F.has y ↔ _; simp, fun y => by show F.wrote y ↔ _; simp, fun h => h⟩
  | cons x l ih =>
    intro F
    have e : Foot.mergeL b m (x :: l) F = Foot.mergeL b m l (F.touch b x (@Option.rec Bool (fun _ => Bool) true (fun c => c) (m.look x))) := rfl
    obtain ⟨h1, h2, h3⟩ := ih (F.touch b x (@Option.rec Bool (fun _ => Bool) true (fun c => c) (m.look x)))
    rw [e]
    refine ⟨fun y => ?_, fun y => ?_, fun h => h3 (Foot.ok_touch h _ _ _)⟩
    · rw [h1, Foot.has_touch]
      constructor
      · rintro (⟨a, b⟩ | ⟨rfl, b⟩ | c)
        · exact .inl ⟨by simp [a], b⟩
        · exact .inl ⟨by simp, b⟩
        · exact .inr c
      · rintro (⟨a, b⟩ | c)
        · rcases List.mem_cons.1 a with rfl | a
          · exact .inr (.inl ⟨rfl, b⟩)
          · exact .inl ⟨a, b⟩
        · exact .inr (.inr c)
    · rw [h2, Foot.wrote_touch]
      have hq : ∀ z, (@Option.rec Bool (fun _ => Bool) true (fun c => c) (m.look z)) = true ↔ m.look z ≠ some false := by
        intro z
        cases h : m.look z with
        | none => simp
        | some c => cases c <;> simp
      rw [hq]
      constructor
      · rintro (⟨a, b, c⟩ | ⟨rfl, b, c⟩ | c)
        · exact .inl ⟨by simp [a], b, c⟩
        · exact .inl ⟨by simp, b, c⟩
        · exact .inr c
      · rintro (⟨a, b, c⟩ | c)
        · rcases List.mem_cons.1 a with rfl | a
          · exact .inr (.inl ⟨rfl, b, c⟩)
          · exact .inl ⟨a, b, c⟩
        · exact .inr (.inr c)
theorem Foot.merge_has {F F1 : Foot} {b : Nat} (h1 : F1.ok) {y : Nat} (hy : F1.has y) (hb : y < b) : (F.merge b F1).has y := by
  unfold Foot.merge
  rw [rec_false _ _ (beq_no (by omega))]
  exact ((Foot.mergeL_spec b _ _ F).1 y).2 (.inl ⟨h1 y hy, hb⟩)
theorem Foot.merge_wrote {F F1 : Foot} {b : Nat} (h1 : F1.ok) {y : Nat} (hy : F1.wrote y) (hb : y < b) : (F.merge b F1).wrote y := by
  unfold Foot.merge
  rw [rec_false _ _ (beq_no (by omega))]
  exact ((Foot.mergeL_spec b _ _ F).2.1 y).2 (.inl ⟨h1 y (Foot.wrote_has hy), hb, by unfold Foot.wrote at hy; rw [hy]; simp⟩)
theorem Foot.has_merge {F F1 : Foot} {b : Nat} {y : Nat} (hy : (F.merge b F1).has y) : y < b ∨ F.has y := by
  unfold Foot.merge at hy
  by_cases e : b = 0
  · rw [rec_true _ _ (beq_yes e)] at hy; exact .inr hy
  · rw [rec_false _ _ (beq_no e)] at hy
    rcases ((Foot.mergeL_spec b _ _ F).1 y).1 hy with ⟨_, h⟩ | h
    · exact .inl h
    · exact .inr h
theorem Foot.merge_keeps {F F1 : Foot} {b : Nat} {y : Nat} : (F.has y → (F.merge b F1).has y) ∧ (F.wrote y → (F.merge b F1).wrote y) := by
  unfold Foot.merge
  by_cases e : b = 0
  · rw [rec_true _ _ (beq_yes e)]; exact ⟨id, id⟩
  · rw [rec_false _ _ (beq_no e)]
    exact ⟨fun h => ((Foot.mergeL_spec b _ _ F).1 y).2 (.inr h), fun h => ((Foot.mergeL_spec b _ _ F).2.1 y).2 (.inr h)⟩
theorem Foot.merge_ok {F F1 : Foot} {b : Nat} (h : F.ok) : (F.merge b F1).ok := by
  unfold Foot.merge
  by_cases e : b = 0
  · rw [rec_true _ _ (beq_yes e)]; exact h
  · rw [rec_false _ _ (beq_no e)]; exact (Foot.mergeL_spec b _ _ F).2.2 h

/-- A plain program over named memory. -/
inductive E where
  | pure (v : AV)
  | fail (n : Nat)
  | get (x : Nat) (k : AObj → E)
  | set (x : Nat) (o : AObj) (k : E)
  | new (o : AObj) (k : Nat → E)
  | choose (n : Nat) (k : Nat → E)
  | ite (q : Bool) (x y : E)
  | scope (e : E) (k : AV → Nat → Nat → Foot → Bool → E)
abbrev Res := AV × T AObj × Nat × Foot
abbrev Outs := List (Option Res)
/-- All branches 0 .. n. -/
noncomputable def upTo (n : Nat) (f : Nat → Outs) : Outs := @Nat.rec (fun _ => Outs) (f 0) (fun m r => r ++ f (Nat.succ m)) n
noncomputable def eachOf (l : Outs) (f : Res → Outs) : Outs := @List.rec (Option Res) (fun _ => Outs) [] (fun r _ ih => @Option.rec Res (fun _ => Outs) [none] (fun r => f r ++ ih) r) l
def many : Outs → Bool
  | _ :: _ :: _ => true
  | _ => false
noncomputable def E.run (e : E) : T AObj → Nat → Nat → Foot → Outs :=
  @E.rec (fun _ => T AObj → Nat → Nat → Foot → Outs)
    (fun v h c _ F => [some (v, h, c, F)])
    (fun _ _ _ _ _ => [none])
    (fun x _ ih h c b F => @Bool.rec (fun _ => Outs) [none] (@Option.rec AObj (fun _ => Outs) [none] (fun o => ih o h c b (F.touch b x false)) (h.look x)) (Nat.blt x c))
    (fun x o _ ih h c b F => @Bool.rec (fun _ => Outs) [none] (ih (h.put o x) c b (F.touch b x true)) (Nat.blt x c))
    (fun o _ ih h c b F => ih c (h.put o c) (Nat.succ c) b F)
    (fun n _ ih h c b F => upTo n fun i => ih i h c b F)
    (fun q _ _ ihx ihy h c b F => @Bool.rec (fun _ => Outs) (ihy h c b F) (ihx h c b F) q)
    (fun _ _ ihe ihk h c b F => (fun l => eachOf l fun r => ihk r.1 c r.2.2.1 r.2.2.2 (many l) r.2.1 r.2.2.1 b (F.merge b r.2.2.2)) (ihe h c c Foot.empty)) e
theorem run_pure (v : AV) (h : T AObj) (c b : Nat) (F : Foot) : (E.pure v).run h c b F = [some (v, h, c, F)] := rfl
theorem run_fail (n : Nat) (h : T AObj) (c b : Nat) (F : Foot) : (E.fail n).run h c b F = [none] := rfl
theorem run_get {x : Nat} {k : AObj → E} {h : T AObj} {c b : Nat} {F : Foot} : (E.get x k).run h c b F = if x < c then (match h.look x with | none => [none] | some o => (k o).run h c b (F.touch b x false)) else [none] := by
  show @Bool.rec (fun _ => Outs) [none] (@Option.rec AObj (fun _ => Outs) [none] (fun o => (k o).run h c b (F.touch b x false)) (h.look x)) (Nat.blt x c) = _
  by_cases hx : x < c
  · rw [rec_true _ _ (blt_yes hx), if_pos hx]
    cases e : h.look x <;> rfl
  · rw [rec_false _ _ (blt_no hx), if_neg hx]
theorem run_set {x : Nat} {o : AObj} {k : E} {h : T AObj} {c b : Nat} {F : Foot} : (E.set x o k).run h c b F = if x < c then k.run (h.put o x) c b (F.touch b x true) else [none] := by
  show @Bool.rec (fun _ => Outs) [none] (k.run (h.put o x) c b (F.touch b x true)) (Nat.blt x c) = _
  by_cases hx : x < c
  · rw [rec_true _ _ (blt_yes hx), if_pos hx]
  · rw [rec_false _ _ (blt_no hx), if_neg hx]
theorem run_new {o : AObj} {k : Nat → E} {h : T AObj} {c b : Nat} {F : Foot} : (E.new o k).run h c b F = (k c).run (h.put o c) (c + 1) b F := rfl
theorem run_choose {n : Nat} {k : Nat → E} {h : T AObj} {c b : Nat} {F : Foot} : (E.choose n k).run h c b F = upTo n fun i => (k i).run h c b F := rfl
theorem run_ite {q : Bool} {x y : E} {h : T AObj} {c b : Nat} {F : Foot} : (E.ite q x y).run h c b F = if q then x.run h c b F else y.run h c b F := by cases q <;> rfl
theorem run_scope {e : E} {k : AV → Nat → Nat → Foot → Bool → E} {h : T AObj} {c b : Nat} {F : Foot} : (E.scope e k).run h c b F = eachOf (e.run h c c Foot.empty) fun r => (k r.1 c r.2.2.1 r.2.2.2 (many (e.run h c c Foot.empty))).run r.2.1 r.2.2.1 b (F.merge b r.2.2.2) := rfl
theorem mem_upTo {n : Nat} {f : Nat → Outs} {r : Option Res} : r ∈ upTo n f ↔ ∃ i, i ≤ n ∧ r ∈ f i := by
  induction n with
  | zero =>
    show r ∈ f 0 ↔ _
    exact ⟨fun h => ⟨0, Nat.le_refl _, h⟩, fun ⟨i, hi, h⟩ => by rw [show i = 0 by omega] at h; exact h⟩
  | succ n ih =>
    show r ∈ upTo n f ++ f (n + 1) ↔ _
    rw [List.mem_append, ih]
    constructor
    · rintro (⟨i, hi, h⟩ | h)
      · exact ⟨i, by omega, h⟩
      · exact ⟨n + 1, Nat.le_refl _, h⟩
    · rintro ⟨i, hi, h⟩
      by_cases e : i = n + 1
      · exact .inr (e ▸ h)
      · exact .inl ⟨i, by omega, h⟩
/-- All outs are there, and as wished. -/
def All (Φ : Res → Prop) (l : Outs) : Prop := ∀ r ∈ l, ∃ q, r = some q ∧ Φ q
theorem All.nil {Φ : Res → Prop} : All Φ [] := fun _ h => by cases h
theorem All.none {Φ : Res → Prop} (h : All Φ [none]) : False := by obtain ⟨q, e, _⟩ := h _ (List.mem_singleton.2 rfl); cases e
theorem All.append {Φ : Res → Prop} {l m : Outs} : All Φ (l ++ m) ↔ All Φ l ∧ All Φ m :=
  ⟨fun h => ⟨fun r hr => h r (List.mem_append.2 (.inl hr)), fun r hr => h r (List.mem_append.2 (.inr hr))⟩, fun ⟨h1, h2⟩ r hr => (List.mem_append.1 hr).elim (h1 r) (h2 r)⟩
theorem All.mono {Φ Ψ : Res → Prop} {l : Outs} (h : All Φ l) (hq : ∀ q, Φ q → Ψ q) : All Ψ l := fun r hr => let ⟨q, e, p⟩ := h r hr; ⟨q, e, hq q p⟩
theorem All.upTo {Φ : Res → Prop} {n : Nat} {f : Nat → Outs} : All Φ (upTo n f) ↔ ∀ i, i ≤ n → All Φ (f i) :=
  ⟨fun h i hi r hr => h r (mem_upTo.2 ⟨i, hi, hr⟩), fun h r hr => let ⟨i, hi, hr⟩ := mem_upTo.1 hr; h i hi r hr⟩
theorem eachOf_nil (f : Res → Outs) : eachOf [] f = [] := rfl
theorem eachOf_none (l : Outs) (f : Res → Outs) : eachOf (none :: l) f = [none] := rfl
theorem eachOf_some (r : Res) (l : Outs) (f : Res → Outs) : eachOf (some r :: l) f = f r ++ eachOf l f := rfl
theorem All.eachOf {Φ : Res → Prop} {l : Outs} {f : Res → Outs} : All Φ (eachOf l f) ↔ All (fun r => All Φ (f r)) l := by
  induction l with
  | nil => exact ⟨fun _ => All.nil, fun _ => All.nil⟩
  | cons r l ih =>
    cases r with
    | none => exact ⟨fun h => (All.none (by rwa [eachOf_none] at h)).elim, fun h => by obtain ⟨q, e, _⟩ := h _ (List.mem_cons_self ..); cases e⟩
    | some r =>
      rw [eachOf_some, All.append, ih]
      exact ⟨fun ⟨h1, h2⟩ q hq => by
        rcases List.mem_cons.1 hq with rfl | hq
        · exact ⟨r, rfl, h1⟩
        · exact h2 q hq, fun h => ⟨by obtain ⟨q, e, hq⟩ := h _ (List.mem_cons_self ..); cases e; exact hq, fun q hq => h q (List.mem_cons_of_mem _ hq)⟩⟩
theorem run_ne (e : E) : ∀ (h : T AObj) (c b : Nat) (F : Foot), e.run h c b F ≠ [] := by
  induction e with
  | pure v => intro h c b F; rw [run_pure]; simp
  | fail n => intro h c b F; rw [run_fail]; simp
  | get x k ih =>
    intro h c b F; rw [run_get]
    split
    · split
      · simp
      · exact ih _ _ _ _ _
    · simp
  | set x o k ih => intro h c b F; rw [run_set]; split <;> first | exact ih _ _ _ _ | simp
  | new o k ih => intro h c b F; rw [run_new]; exact ih _ _ _ _ _
  | choose n k ih =>
    intro h c b F; rw [run_choose]
    intro e
    obtain ⟨r, hr⟩ : ∃ r, r ∈ (k 0).run h c b F := List.exists_mem_of_ne_nil _ (ih 0 h c b F)
    have : r ∈ upTo n fun i => (k i).run h c b F := mem_upTo.2 ⟨0, Nat.zero_le _, hr⟩
    rw [e] at this; cases this
  | ite q x y ihx ihy => intro h c b F; rw [run_ite]; cases q <;> first | exact ihx _ _ _ _ | exact ihy _ _ _ _
  | scope e k ihe ihk =>
    intro h c b F; rw [run_scope]
    have hne := ihe h c c Foot.empty
    generalize many (e.run h c c Foot.empty) = mb
    cases hl : e.run h c c Foot.empty with
    | nil => exact absurd hl hne
    | cons r l =>
      cases r with
      | none => rw [eachOf_none]; simp
      | some r =>
        rw [eachOf_some]
        intro e
        exact ihk _ _ _ _ _ _ _ _ _ (List.append_eq_nil_iff.1 e).1
/-- Every out of a whole part is gone on with. -/
theorem All.some_of {Φ : Res → Prop} {l : Outs} (h : All Φ l) (hn : l ≠ []) : ∃ q, some q ∈ l ∧ Φ q := by
  obtain ⟨r, hr⟩ := List.exists_mem_of_ne_nil _ hn
  obtain ⟨q, rfl, hq⟩ := h r hr
  exact ⟨q, hr, hq⟩

/-- What a part keeps. -/
structure Keeps (h : T AObj) (c b : Nat) (F : Foot) (q : Res) : Prop where
  up : c ≤ q.2.2.1
  ok : q.2.2.2.ok
  has : ∀ x, F.has x → q.2.2.2.has x
  wrote : ∀ x, F.wrote x → q.2.2.2.wrote x
  low : ∀ x, q.2.2.2.has x → F.has x ∨ x < b
  same : ∀ x, ¬ q.2.2.2.wrote x → ¬ (b ≤ x ∧ x < q.2.2.1) → q.2.1.look x = h.look x
theorem E.keeps (e : E) : ∀ (h : T AObj) (c b : Nat) (F : Foot) (q : Res), some q ∈ e.run h c b F → b ≤ c → F.ok → Keeps h c b F q := by
  induction e with
  | pure v0 =>
    intro h c b F q hr hb hF
    rw [run_pure] at hr
    obtain rfl : q = (v0, h, c, F) := by simpa using hr
    exact ⟨Nat.le_refl _, hF, fun _ h => h, fun _ h => h, fun _ h => .inl h, fun _ _ _ => rfl⟩
  | fail n => intro h c b F q hr; rw [run_fail] at hr; simp at hr
  | get x k ih =>
    intro h c b F q hr hb hF
    rw [run_get] at hr
    split at hr
    · split at hr
      · simp at hr
      · rename_i o ho
        have i := ih o h c b _ q hr hb (Foot.ok_touch hF _ _ _)
        refine ⟨i.up, i.ok, fun y hy => i.has y (Foot.has_touch.2 (.inr hy)), fun y hy => i.wrote y (Foot.wrote_touch.2 (.inr hy)), fun y hy => ?_, i.same⟩
        rcases i.low y hy with h | h
        · rcases Foot.has_touch.1 h with ⟨rfl, h⟩ | h
          · exact .inr h
          · exact .inl h
        · exact .inr h
    · simp at hr
  | set x o k ih =>
    intro h c b F q hr hb hF
    rw [run_set] at hr
    split at hr
    · rename_i hx
      have i := ih _ c b _ q hr hb (Foot.ok_touch hF _ _ _)
      refine ⟨i.up, i.ok, fun y hy => i.has y (Foot.has_touch.2 (.inr hy)), fun y hy => i.wrote y (Foot.wrote_touch.2 (.inr hy)), fun y hy => ?_, fun y hy hy' => ?_⟩
      · rcases i.low y hy with h | h
        · rcases Foot.has_touch.1 h with ⟨rfl, h⟩ | h
          · exact .inr h
          · exact .inl h
        · exact .inr h
      · rw [i.same y hy hy', T.look_put_ne]
        rintro rfl
        have := i.up
        by_cases e : y < b
        · exact hy (i.wrote y (Foot.wrote_touch.2 (.inl ⟨rfl, e, rfl⟩)))
        · exact hy' ⟨by omega, by omega⟩
    · simp at hr
  | new o k ih =>
    intro h c b F q hr hb hF
    rw [run_new] at hr
    have i := ih c _ (c + 1) b F q hr (by omega) hF
    have := i.up
    refine ⟨by omega, i.ok, i.has, i.wrote, i.low, fun y hy hy' => ?_⟩
    rw [i.same y hy hy', T.look_put_ne]
    rintro rfl
    exact hy' ⟨by omega, by omega⟩
  | choose n k ih =>
    intro h c b F q hr hb hF
    rw [run_choose] at hr
    obtain ⟨i, _, hr⟩ := mem_upTo.1 hr
    exact ih i h c b F q hr hb hF
  | ite q0 x y ihx ihy =>
    intro h c b F q hr hb hF
    rw [run_ite] at hr
    cases q0 with
    | true => exact ihx h c b F q hr hb hF
    | false => exact ihy h c b F q hr hb hF
  | scope e k ihe ihk =>
    intro h c b F q hr hb hF
    rw [run_scope] at hr
    generalize many (e.run h c c Foot.empty) = mb at hr
    have key : ∀ l : Outs, (∀ r ∈ l, r ∈ e.run h c c Foot.empty) → some q ∈ eachOf l (fun r => (k r.1 c r.2.2.1 r.2.2.2 mb).run r.2.1 r.2.2.1 b (F.merge b r.2.2.2)) → ∃ r, some r ∈ e.run h c c Foot.empty ∧ some q ∈ (k r.1 c r.2.2.1 r.2.2.2 mb).run r.2.1 r.2.2.1 b (F.merge b r.2.2.2) := by
      intro l
      induction l with
      | nil => intro _ hq; cases hq
      | cons r l ih =>
        intro hl hq
        cases r with
        | none => rw [eachOf_none] at hq; simp at hq
        | some r =>
          rw [eachOf_some] at hq
          rcases List.mem_append.1 hq with hq | hq
          · exact ⟨r, hl _ (List.mem_cons_self ..), hq⟩
          · exact ih (fun r hr => hl r (List.mem_cons_of_mem _ hr)) hq
    obtain ⟨r, hr1, hr2⟩ := key _ (fun _ h => h) hr
    obtain ⟨v1, h1, c1, F1⟩ := r
    have i := ihe h c c Foot.empty _ hr1 (Nat.le_refl _) (fun x hx => absurd (Foot.look_empty x) hx)
    have iup : c ≤ c1 := i.up
    have j := ihk _ _ _ _ _ _ _ b _ q hr2 (by show b ≤ c1; omega) (Foot.merge_ok hF)
    have jup : c1 ≤ q.2.2.1 := j.up
    refine ⟨by omega, j.ok, fun y hy => j.has y (Foot.merge_keeps.1 hy), fun y hy => j.wrote y (Foot.merge_keeps.2 hy), fun y hy => ?_, fun y hy hy' => ?_⟩
    · rcases j.low y hy with h | h
      · rcases Foot.has_merge h with h | h
        · exact .inr h
        · exact .inl h
      · exact .inr h
    · have f1 : F1.has y → y < c := fun hx => by
        rcases i.low y hx with h | h
        · exact absurd (Foot.look_empty y) h
        · exact h
      rw [j.same y hy hy']
      refine i.same y (fun hw => ?_) (fun hw => hy' ⟨by omega, Nat.lt_of_lt_of_le hw.2 jup⟩)
      by_cases e : y < b
      · exact hy (j.wrote y (Foot.merge_wrote i.ok hw e))
      · have := f1 (Foot.wrote_has hw)
        exact hy' ⟨by omega, by omega⟩
/-- An out over another memory that agrees. -/
structure Like (b : Nat) (h2 : T AObj) (q p : Res) : Prop where
  v : p.1 = q.1
  c : p.2.2.1 = q.2.2.1
  F : p.2.2.2 = q.2.2.2
  has : ∀ x, q.2.2.2.has x → p.2.1.look x = q.2.1.look x
  mid : ∀ x, b ≤ x → x < q.2.2.1 → p.2.1.look x = q.2.1.look x
  same : ∀ x, ¬ q.2.2.2.wrote x → ¬ (b ≤ x ∧ x < q.2.2.1) → p.2.1.look x = h2.look x
inductive All2 (R : Res → Res → Prop) : Outs → Outs → Prop
  | nil : All2 R [] []
  | cons {q p : Res} {l m : Outs} (h : R q p) (t : All2 R l m) : All2 R (some q :: l) (some p :: m)
theorem All2.append {R : Res → Res → Prop} {a b c d : Outs} (h : All2 R a b) (h' : All2 R c d) : All2 R (a ++ c) (b ++ d) := by
  induction h with
  | nil => exact h'
  | cons h _ ih => exact .cons h ih
theorem All2.mono {R S : Res → Res → Prop} {a b : Outs} (h : All2 R a b) (hq : ∀ q p, R q p → S q p) : All2 S a b := by
  induction h with
  | nil => exact .nil
  | cons h _ ih => exact .cons (hq _ _ h) ih
theorem All2.many {R : Res → Res → Prop} {a b : Outs} (h : All2 R a b) : many a = many b := by
  cases h with
  | nil => rfl
  | cons _ t => cases t <;> rfl
theorem All2.left {R : Res → Res → Prop} {a b : Outs} (h : All2 R a b) {p : Option Res} (hp : p ∈ b) : ∃ q p', p = some p' ∧ some q ∈ a ∧ R q p' := by
  induction h with
  | nil => cases hp
  | cons h t ih =>
    rcases List.mem_cons.1 hp with rfl | hp
    · exact ⟨_, _, rfl, List.mem_cons_self .., h⟩
    · obtain ⟨q, p', e, hq, hr⟩ := ih hp
      exact ⟨q, p', e, List.mem_cons_of_mem _ hq, hr⟩
theorem All2.upTo {R : Res → Res → Prop} {n : Nat} {f g : Nat → Outs} (h : ∀ i, i ≤ n → All2 R (f i) (g i)) : All2 R (upTo n f) (upTo n g) := by
  induction n with
  | zero => exact h 0 (Nat.le_refl _)
  | succ n ih => exact (ih fun i hi => h i (by omega)).append (h (n + 1) (Nat.le_refl _))
theorem All2.eachOf {R S : Res → Res → Prop} {a b : Outs} {f g : Res → Outs} (h : All2 R a b) (hf : ∀ q p, some q ∈ a → R q p → All2 S (f q) (g p)) : All2 S (eachOf a f) (eachOf b g) := by
  induction h with
  | nil => exact .nil
  | cons h t ih =>
    rw [eachOf_some, eachOf_some]
    exact (hf _ _ (List.mem_cons_self ..) h).append (ih fun q p hq hr => hf q p (List.mem_cons_of_mem _ hq) hr)
/-- A plain program's outs hang on what they touch alone. -/
theorem E.frame (e : E) : ∀ (h : T AObj) (c b : Nat) (F : Foot), All (fun _ => True) (e.run h c b F) → b ≤ c → F.ok →
    ∀ h2 : T AObj, (∀ q, some q ∈ e.run h c b F → ∀ x, q.2.2.2.has x → h2.look x = h.look x) → (∀ x, b ≤ x → x < c → h2.look x = h.look x) →
      All2 (Like b h2) (e.run h c b F) (e.run h2 c b F) := by
  induction e with
  | pure v0 =>
    intro h c b F hr hb hF h2 a1 a2
    rw [run_pure, run_pure]
    exact .cons ⟨rfl, rfl, rfl, a1 (v0, h, c, F) (by rw [run_pure]; simp), a2, fun _ _ _ => rfl⟩ .nil
  | fail n => intro h c b F hr; rw [run_fail] at hr; exact (All.none hr).elim
  | get x k ih =>
    intro h c b F hr hb hF h2 a1 a2
    rw [run_get] at hr a1 ⊢
    rw [run_get]
    by_cases hx : x < c
    · rw [if_pos hx] at hr a1 ⊢
      rw [if_pos hx]
      cases ho : h.look x with
      | none => rw [ho] at hr; exact (All.none hr).elim
      | some o =>
        simp only [ho] at hr a1 ⊢
        have e2 : h2.look x = some o := by
          rw [← ho]
          by_cases e : x < b
          · obtain ⟨q, hq, _⟩ := hr.some_of (run_ne _ _ _ _ _)
            exact a1 q hq x ((E.keeps _ _ _ _ _ q hq hb (Foot.ok_touch hF _ _ _)).has x (Foot.has_touch.2 (.inl ⟨rfl, e⟩)))
          · exact a2 x (by omega) hx
        simp only [e2]
        exact ih o h c b _ hr hb (Foot.ok_touch hF _ _ _) h2 a1 a2
    · rw [if_neg hx] at hr; exact (All.none hr).elim
  | set x o k ih =>
    intro h c b F hr hb hF h2 a1 a2
    rw [run_set] at hr a1 ⊢
    rw [run_set]
    by_cases hx : x < c
    · rw [if_pos hx] at hr a1 ⊢
      rw [if_pos hx]
      have := ih _ c b _ hr hb (Foot.ok_touch hF _ _ _) (h2.put o x) (fun q hq y hy => by
        rw [T.look_put, T.look_put]; split
        · rfl
        · exact a1 q hq y hy) (fun y hy hy' => by
        rw [T.look_put, T.look_put]; split
        · rfl
        · exact a2 y hy hy')
      have mem : ∀ q p, Like b (h2.put o x) q p → some q ∈ k.run (h.put o x) c b (F.touch b x true) → Like b h2 q p := fun q p hl hq => by
        have i := E.keeps _ _ _ _ _ q hq hb (Foot.ok_touch hF _ _ _)
        have iup := i.up
        refine ⟨hl.v, hl.c, hl.F, hl.has, hl.mid, fun y hy hy' => ?_⟩
        rw [hl.same y hy hy', T.look_put_ne]
        rintro rfl
        by_cases e : y < b
        · exact hy (i.wrote y (Foot.wrote_touch.2 (.inl ⟨rfl, e, rfl⟩)))
        · exact hy' ⟨by omega, by omega⟩
      have gen : ∀ a b', All2 (Like b (h2.put o x)) a b' → (∀ q, some q ∈ a → some q ∈ k.run (h.put o x) c b (F.touch b x true)) → All2 (Like b h2) a b' := by
        intro a b' h2'
        induction h2' with
        | nil => intro _; exact .nil
        | cons hh t ih => intro hm; exact .cons (mem _ _ hh (hm _ (List.mem_cons_self ..))) (ih fun q hq => hm q (List.mem_cons_of_mem _ hq))
      exact gen _ _ this fun _ h => h
    · rw [if_neg hx] at hr; exact (All.none hr).elim
  | new o k ih =>
    intro h c b F hr hb hF h2 a1 a2
    rw [run_new] at hr a1 ⊢
    rw [run_new]
    have := ih c _ (c + 1) b F hr (by omega) hF (h2.put o c) (fun q hq y hy => by
      rw [T.look_put, T.look_put]; split
      · rfl
      · exact a1 q hq y hy) (fun y hy hy' => by
      rw [T.look_put, T.look_put]; split
      · rfl
      · exact a2 y hy (by omega))
    have gen : ∀ a b', All2 (Like b (h2.put o c)) a b' → (∀ q, some q ∈ a → some q ∈ (k c).run (h.put o c) (c + 1) b F) → All2 (Like b h2) a b' := by
      intro a b' h2'
      induction h2' with
      | nil => intro _; exact .nil
      | cons hh t ih =>
        rename_i q p _ _
        intro hm
        have iup : c + 1 ≤ q.2.2.1 := (E.keeps _ _ _ _ _ q (hm _ (List.mem_cons_self ..)) (by omega) hF).up
        refine .cons ⟨hh.v, hh.c, hh.F, hh.has, hh.mid, fun y hy hy' => ?_⟩ (ih fun q hq => hm q (List.mem_cons_of_mem _ hq))
        rw [hh.same y hy hy', T.look_put_ne]
        rintro rfl
        exact hy' ⟨by omega, by omega⟩
    exact gen _ _ this fun _ h => h
  | choose n k ih =>
    intro h c b F hr hb hF h2 a1 a2
    rw [run_choose] at hr a1 ⊢
    rw [run_choose]
    exact All2.upTo fun i hi => ih i h c b F (All.upTo.1 hr i hi) hb hF h2 (fun q hq => a1 q (mem_upTo.2 ⟨i, hi, hq⟩)) a2
  | ite q0 x y ihx ihy =>
    intro h c b F hr hb hF h2 a1 a2
    rw [run_ite] at hr a1 ⊢
    rw [run_ite]
    cases q0 with
    | true => exact ihx h c b F hr hb hF h2 a1 a2
    | false => exact ihy h c b F hr hb hF h2 a1 a2
  | scope e k ihe ihk =>
    intro h c b F hr hb hF h2 a1 a2
    rw [run_scope] at hr a1 ⊢
    rw [run_scope]
    have hr' := All.eachOf.1 hr
    have he : All (fun _ => True) (e.run h c c Foot.empty) := hr'.mono fun _ _ => trivial
    have emp : Foot.empty.ok := fun x hx => absurd (Foot.look_empty x) hx
    have f1 : ∀ r, some r ∈ e.run h c c Foot.empty → ∀ x, r.2.2.2.has x → x < c := fun r hr x hx => by
      rcases (E.keeps _ _ _ _ _ r hr (Nat.le_refl _) emp).low x hx with h | h
      · exact absurd (Foot.look_empty x) h
      · exact h
    have memE : ∀ (l : Outs) (f : Res → Outs) (r q : Res), All (fun _ => True) l → some r ∈ l → some q ∈ f r → some q ∈ eachOf l f := by
      intro l f r q hl hr hq
      induction l with
      | nil => cases hr
      | cons s l ih =>
        obtain ⟨s', rfl, _⟩ := hl _ (List.mem_cons_self ..)
        rw [eachOf_some]
        rcases List.mem_cons.1 hr with e | hr
        · cases e; exact List.mem_append.2 (.inl hq)
        · exact List.mem_append.2 (.inr (ih (fun r hr => hl r (List.mem_cons_of_mem _ hr)) hr))
    have b1 : ∀ r, some r ∈ e.run h c c Foot.empty → ∀ x, r.2.2.2.has x → h2.look x = h.look x := fun r hrm x hx => by
      by_cases eb : x < b
      · obtain ⟨r', er, hall⟩ := hr' _ hrm
        cases er
        obtain ⟨q, hq, _⟩ := hall.some_of (run_ne _ _ _ _ _)
        have i := E.keeps _ _ _ _ _ r hrm (Nat.le_refl _) emp
        have iup := i.up
        have j := E.keeps _ _ _ _ _ q hq (by omega) (Foot.merge_ok hF)
        exact a1 q (memE _ _ r q he hrm hq) x (j.has x (Foot.merge_has i.ok hx eb))
      · exact a2 x (by omega) (f1 r hrm x hx)
    have i7 := ihe h c c Foot.empty he (Nat.le_refl _) emp h2 b1 (fun x h1 h2 => absurd h2 (by omega))
    rw [← i7.many]
    generalize many (e.run h c c Foot.empty) = mb at *
    refine i7.eachOf (S := Like b h2) fun r p hrm hl => ?_
    obtain ⟨r', er, hall⟩ := hr' _ hrm
    cases er
    obtain ⟨v1, h1, c1, F1⟩ := r
    obtain ⟨v2, h21, c2, F2⟩ := p
    obtain ⟨lv, lc, lF, j2, j3, j4⟩ := hl
    simp only at lv lc lF j2 j3 j4 hall ⊢
    subst lv lc lF
    have i := E.keeps _ _ _ _ _ _ hrm (Nat.le_refl _) emp
    have iup : c ≤ c2 := i.up
    have i6 : ∀ x, ¬ F2.wrote x → ¬ (c ≤ x ∧ x < c2) → h1.look x = h.look x := i.same
    have g : ∀ x, h2.look x = h.look x → h21.look x = h1.look x := fun x hx => by
      by_cases hw : F2.wrote x
      · exact j2 x (Foot.wrote_has hw)
      · by_cases hc : c ≤ x ∧ x < c2
        · exact j3 x hc.1 hc.2
        · rw [j4 x hw hc, i6 x hw hc]; exact hx
    have := ihk v2 c c2 F2 mb h1 c2 b _ hall (by omega) (Foot.merge_ok hF) h21 (fun q hq x hx => g x (a1 q (memE _ _ _ q he hrm hq) x hx)) (fun x hx hx' => by
      by_cases hc : c ≤ x
      · exact j3 x hc hx'
      · exact g x (a2 x hx (by omega)))
    have gen : ∀ a b', All2 (Like b h21) a b' → (∀ q, some q ∈ a → some q ∈ (k v2 c c2 F2 mb).run h1 c2 b (F.merge b F2)) → All2 (Like b h2) a b' := by
      intro a b' h2'
      induction h2' with
      | nil => intro _; exact .nil
      | cons hh t ih =>
        rename_i q p _ _
        intro hm
        have j := E.keeps _ _ _ _ _ q (hm _ (List.mem_cons_self ..)) (by omega) (Foot.merge_ok hF)
        have jup : c2 ≤ q.2.2.1 := j.up
        refine .cons ⟨hh.v, hh.c, hh.F, hh.has, hh.mid, fun y hy hy' => ?_⟩ (ih fun q hq => hm q (List.mem_cons_of_mem _ hq))
        rw [hh.same y hy hy']
        refine j4 y (fun hw => ?_) (fun hw => hy' ⟨by omega, by omega⟩)
        by_cases eb : y < b
        · exact hy (j.wrote y (Foot.merge_wrote i.ok hw eb))
        · have := f1 _ hrm y (Foot.wrote_has hw)
          exact hy' ⟨by omega, by omega⟩
    exact gen _ _ this fun _ h => h
end Px
end

section
namespace Px
open Go
set_option linter.unusedVariables false
/-- What a call or a loop answers: data, and the data of what it was handed. -/
abbrev Ans := Option (PV × List PV)
/-- What the plain run is told of the program: types, functions, functions that it takes as told, functions that are run in their caller's memory, variables that keep the right to be appended to around a loop. -/
structure Tab where
  ty : T TypeInfo
  fn : T Func
  given : FuncId → Option (List AV → List AObj → Ans)
  inl : FuncId → Bool
  grow : FuncId → Nat → Bool
  live : FuncId → Nat → List Nat
  shape : FuncId → Nat → Nat → List (Option AV)
  flat : TypeId → Bool

abbrev undA : AV := .dead
def opt {α : Type} (n : Nat) (o : Option α) (k : α → E) : E := match o with | some a => k a | none => .fail n
def ck (n : Nat) (q : Bool) (e : E) : E := .ite q e (.fail n)
def bytesN (b : ByteArray) : List Nat := b.data.toList.map UInt8.toNat
mutual
def absV : Value → Option AV
  | .bool b => some (.bool b)
  | .int k n => some (.int k n)
  | .string s => some (.str (bytesN s))
  | .pointer none => some (.ptr none)
  | .slice none 0 0 => some .nils
  | .map none => some (.map none)
  | .func (.func f) ⟨[]⟩ ⟨[]⟩ => some (.func (.func f) [] [])
  | .nilFunc => some .nilFunc
  | .nilIface => some .nilIface
  | .iface t v => match absV v with | some a => some (.iface t a) | none => none
  | .agg ⟨cs⟩ => match absVs cs with | some l => some (.agg l) | none => none
  | .tuple ⟨cs⟩ => match absVs cs with | some l => some (.tuple l) | none => none
  | _ => none
def absVs : List Value → Option (List AV)
  | [] => some []
  | v :: vs => match absV v with | some a => (match absVs vs with | some l => some (a :: l) | none => none) | none => none
end
structure AAct where
  sz : Nat
  tm : T AV
noncomputable def AAct.at (a : AAct) (t : Nat) : AV := @Option.rec AV (fun _ => AV) undA (fun v => v) (a.tm.look t)
noncomputable def evA (a : AAct) : Operand → Option AV
  | .tmp t => some (a.at t)
  | .const v => absV v
  | .global g => some (.glob g 0)
  | .func f => some (.func (.func f) [] [])
noncomputable def evL (a : AAct) : List Operand → Option (List AV)
  | [] => some []
  | x :: xs => match evA a x with | some v => (match evL a xs with | some l => some (v :: l) | none => none) | none => none
noncomputable def AAct.put (a : AAct) (d : Option Tmp) (v : AV) : AAct := match d with | some t => { a with tm := a.tm.put v t } | none => a
section
variable (tb : Tab)
noncomputable def und (t : TypeId) : Option TypeDesc := match tb.ty.look t with
  | some i => (match i.desc with
    | .named _ u => (match tb.ty.look u with | some j => some j.desc | none => none)
    | d => some d)
  | none => none
noncomputable def szA (t : TypeId) : Option Nat := match tb.ty.look t with | some i => some i.size | none => none
noncomputable def isAggA (t : TypeId) : Option Bool := match und tb t with
  | some (.struct _) => some true
  | some (.array _ _) => some true
  | some _ => some false
  | none => none
noncomputable def zeroA (t : TypeId) : Option AV := match tb.ty.look t with | some i => (match i.zero with | some v => absV v | none => none) | none => none
/-- n elements of a list from place i, if they are there. -/
def seg (l : List AV) : Nat → Nat → Option (List AV)
  | 0, 0 => some []
  | 0, n + 1 => match l with | x :: xs => (match seg xs 0 n with | some r => some (x :: r) | none => none) | [] => none
  | i + 1, n => match l with | _ :: xs => seg xs i n | [] => none
/-- A list with others laid over it from place i; longer, if they reach past its end. -/
def lay (l : List AV) : Nat → List AV → Option (List AV)
  | 0, [] => some l
  | 0, y :: ys => match l with | _ :: xs => (match lay xs 0 ys with | some r => some (y :: r) | none => none) | [] => some (y :: ys)
  | i + 1, ys => match l with | x :: xs => (match lay xs i ys with | some r => some (x :: r) | none => none) | [] => none
/-- Is a value one cell? -/
noncomputable def isCellA (a : AV) : Bool := match a with
  | .agg _ => false
  | .tuple _ => false
  | .dead => false
  | .map (some _) => false
  | .pv t _ => (match und tb t with | some (.slice _) => true | _ => false)
  | _ => true
noncomputable def allCellA : List AV → Bool
  | [] => true
  | a :: l => isCellA tb a && allCellA l
/-- A datum of a type, as far as its type shapes it. -/
noncomputable def expandV (t : TypeId) (p : PV) : Option AV := match und tb t with
  | some .bool => some (.bool p.b)
  | some (.int k) => some (.int k p.i)
  | some .string => some (.str p.s)
  | some (.slice _) => some (.pv t p)
  | some (.struct _) => some (.pv t p)
  | some (.array _ _) => some (.pv t p)
  | _ => none
/-- The cells of fields, each by its type. -/
def cellsF (ex : TypeId → PV → Option (List AV)) : List Field → Nat → Nat → PV → Option (List AV)
  | [], _, _, _ => some []
  | f :: fs, i, off, p => bif Nat.beq f.offset off then (match ex f.type (p.at i) with
    | some cs => (match cellsF ex fs (i + 1) (off + cs.length) p with | some r => some (cs ++ r) | none => none)
    | none => none) else none
def cellsN (ex : PV → Option (List AV)) (p : PV) : Nat → Nat → Option (List AV)
  | 0, _ => some []
  | n + 1, i => match ex (p.at i) with
    | some cs => (match cellsN ex p n (i + 1) with | some r => some (cs ++ r) | none => none)
    | none => none
/-- A datum's cells. -/
noncomputable def expandC : Nat → TypeId → PV → Option (List AV)
  | 0, _, _ => none
  | d + 1, t, p => match und tb t with
    | some (.struct fs) => (match cellsF (expandC d) fs.toList 0 0 p, szA tb t with | some cs, some m => bif Nat.beq cs.length m then some cs else none | _, _ => none)
    | some (.array n e) => (match cellsN (expandC d e) p n 0, szA tb t with | some cs, some m => bif Nat.beq cs.length m then some cs else none | _, _ => none)
    | some (.slice _) => some [.pv t p]
    | some .bool => some [.bool p.b]
    | some (.int k) => some [.int k p.i]
    | some .string => some [.str p.s]
    | _ => none
noncomputable def cellsV (v : AV) : Option (List AV) := match v with
  | .agg cs => some cs
  | .pv t p => expandC tb 20 t p
  | .tuple _ => none
  | .dead => none
  | v => some [v]
noncomputable def partA (t : TypeId) (cs : List AV) (off : Nat) : Option AV := match isAggA tb t with
  | some true => (match szA tb t with | some n => (match seg cs off n with | some l => some (.agg l) | none => none) | none => none)
  | some false => (match szA tb t with | some n => bif Nat.beq n 1 then (match seg cs off 1 with | some [c] => some c | _ => none) else none | none => none)
  | none => none
def fieldIx (off ft : Nat) : List Field → Nat → Option Nat
  | [], _ => none
  | f :: fs, i => bif Nat.beq f.offset off && Nat.beq f.type ft then some i else fieldIx off ft fs (i + 1)
/-- The part of type ft at place off of a value of type t. -/
noncomputable def partV (t : TypeId) (v : AV) (ft off : Nat) : Option AV := bif Nat.beq off 0 && Nat.beq t ft then some v else match v with
  | .agg cs => partA tb ft cs off
  | .pv t' p => (match und tb t' with
    | some (.struct fs) => (match fieldIx off ft fs.toList 0 with
      | some i => expandV tb ft (p.at i)
      | none => (match expandC tb 20 t' p with | some cs => partA tb ft cs off | none => none))
    | some (.array _ _) => (match expandC tb 20 t' p with | some cs => partA tb ft cs off | none => none)
    | _ => none)
  | _ => none
def normF (nm : TypeId → AV → Option PV) (part : TypeId → Nat → Option AV) : List Field → Option (List PV)
  | [] => some []
  | f :: fs => match part f.type f.offset with
    | some a => (match nm f.type a with
      | some p => (match normF nm part fs with | some r => some (p :: r) | none => none)
      | none => none)
    | none => none
def normN (nm : AV → Option PV) (part : Nat → Option AV) (sz : Nat) : Nat → Nat → Option (List PV)
  | 0, _ => some []
  | n + 1, off => match part off with
    | some a => (match nm a with
      | some p => (match normN nm part sz n (off + sz) with | some r => some (p :: r) | none => none)
      | none => none)
    | none => none
/-- A value as a datum of a type. -/
noncomputable def norm : Nat → TypeId → AV → Option PV
  | 0, _, _ => none
  | d + 1, t, a => match und tb t with
    | some .bool => (match a with | .bool b => some (.bool b) | _ => none)
    | some (.int k) => (match a with | .int k' n => bif decide (k = k') then some (.int n) else none | _ => none)
    | some .string => (match a with | .str s => some (.str s) | _ => none)
    | some (.slice _) => (match a with
      | .pv t' p => bif Nat.beq t t' then some p else none
      | .vs _ _ t' es => bif Nat.beq t t' then some (.node es) else none
      | .nils => some (.node [])
      | _ => none)
    | some (.struct fs) => (match a with
      | .pv t' p => bif Nat.beq t t' then some p else none
      | .agg cs => (match allCellA tb cs, szA tb t, normF (norm d) (partA tb · cs ·) fs.toList with
        | true, some m, some l => bif Nat.beq cs.length m then some (.node l) else none
        | _, _, _ => none)
      | _ => none)
    | some (.array n e) => (match a with
      | .pv t' p => bif Nat.beq t t' then some p else none
      | .agg cs => (match allCellA tb cs, szA tb t, szA tb e with
        | true, some m, some sz => bif Nat.beq cs.length m then (match normN (norm d e) (partA tb e cs ·) sz n 0 with | some l => some (.node l) | none => none) else none
        | _, _, _ => none)
      | _ => none)
    | _ => none
/-- May a value be laid into a variable of a type? -/
noncomputable def boxOk (t : TypeId) (v : AV) : Bool := match isAggA tb t, szA tb t with
  | some true, some n => (match v with
    | .agg cs => allCellA tb cs && Nat.beq cs.length n
    | .pv t' p => (match isAggA tb t', expandC tb 20 t' p with | some true, some cs => allCellA tb cs && Nat.beq cs.length n | _, _ => false)
    | _ => false)
  | some false, some n => isCellA tb v && Nat.beq n 1
  | _, _ => false
noncomputable def elemA (t : TypeId) : Option (TypeId × Nat) := match und tb t with
  | some (.slice e) => (match szA tb e with | some (n + 1) => some (e, n + 1) | _ => none)
  | _ => none
/-- The types of a value's cells. -/
def leafF (lf : TypeId → Option (List TypeId)) : List Field → Nat → Option (List TypeId)
  | [], _ => some []
  | f :: fs, off => bif Nat.beq f.offset off then (match lf f.type with
    | some cs => (match leafF lf fs (off + cs.length) with | some r => some (cs ++ r) | none => none)
    | none => none) else none
noncomputable def leafs : Nat → TypeId → Option (List TypeId)
  | 0, _ => none
  | d + 1, t => match und tb t with
    | some (.struct fs) => leafF (leafs d) fs.toList 0
    | some (.array _ _) => none
    | _ => some [t]
/-- Nil slices of a value that is laid into a variable: each gets the right to be appended to. -/
noncomputable def phanL : List TypeId → List AV → (List AV → E) → E
  | t :: ts, c :: cs, k => (match c with
    | .nils => (match elemA tb t with
      | some _ => .new (.vec t 0) fun x => phanL ts cs fun r => k (.vs x 0 t [] :: r)
      | none => phanL ts cs fun r => k (c :: r))
    | _ => phanL ts cs fun r => k (c :: r))
  | _, cs, k => k cs
noncomputable def phanE (t : TypeId) (v : AV) (k : AV → E) : E := match v with
  | .nils => (match elemA tb t with
    | some _ => .new (.vec t 0) fun x => k (.vs x 0 t [])
    | none => k v)
  | .agg cs => (match leafs tb 20 t with
    | some ts => phanL tb ts cs fun cs' => k (.agg cs')
    | none => k v)
  | _ => k v
/-- The same, where it is wanted. -/
noncomputable def phanG (q : Bool) (t : TypeId) (v : AV) (k : AV → E) : E := bif q then phanE tb t v k else k v
/-- A slice that is filled: from here on it never turns. -/
def frzE (v : AV) (k : AV → E) : E := match v with
  | .ar x t => .get x fun o => match o with
    | .arr st es => bif Nat.beq st t then .set x .dead (k (.pv st (.node es))) else .fail 91
    | _ => .fail 90
  | v => k v
def frzL : List AV → (List AV → E) → E
  | [], k => k []
  | v :: vs, k => frzE v fun v => frzL vs fun vs => k (v :: vs)
noncomputable def loadE (t : TypeId) (v : AV) (k : AV → E) : E := match v with
  | .ptr (some (x, off)) => .get x fun o => (match o with
    | .box bt bv => opt 107 (partV tb bt bv t off) k
    | _ => .fail 108)
  | .fp t' p => bif Nat.beq t t' then opt 109 (expandV tb t p) k else .fail 109
  | .ap x t' i => .get x fun o => (match o with
    | .arr st es => (match elemA tb st with | some (e, _) => bif Nat.beq t t' && Nat.beq e t then ck 106 (inP es i) (opt 106 (expandV tb t (getP es i)) k) else .fail 106 | none => .fail 106)
    | _ => .fail 105)
  | _ => .fail 110
noncomputable def storeE (q : Bool) (t : TypeId) (v u : AV) (k : E) : E := match v with
  | .ptr (some (x, off)) => .get x fun o => (match o with
    | .box bt bv => phanG tb q t u fun u => bif Nat.beq off 0 && Nat.beq t bt then (bif boxOk tb t u then .set x (.box bt u) k else .fail 115) else
        opt 111 (cellsV tb bv) fun cs => opt 112 (cellsV tb u) fun us => opt 113 (szA tb t) fun n => bif Nat.beq us.length n && allCellA tb us then
          opt 114 (seg cs off n) fun _ => opt 114 (lay cs off us) fun cs' => bif boxOk tb bt (.agg cs') then .set x (.box bt (.agg cs')) k else .fail 115 else .fail 115
    | _ => .fail 116)
  | .ap x t' i => .get x fun o => (match o with
    | .arr st es => (match elemA tb st with | some (e, sz) => bif Nat.beq t t' && Nat.beq e t then opt 117 (norm tb 20 t u) fun p => opt 117 (cellsV tb u) fun us => bif Nat.beq us.length sz && allCellA tb us then ck 118 (inP es i) (.set x (.arr st (setP es i p)) k) else .fail 117 else .fail 117 | none => .fail 117)
    | _ => .fail 119)
  | _ => .fail 113
/-- A struct's cells. -/
noncomputable def cellsS (t : TypeId) (x : AV) : Option (List AV) := match x with
  | .agg cs => some cs
  | .pv t' p => bif Nat.beq t t' then expandC tb 20 t p else none
  | _ => none
noncomputable def eqF (eq : TypeId → AV → AV → Option Bool) (xs ys : List AV) : List Field → Option Bool
  | [] => some true
  | f :: fs => bif f.name == "_" then none else match partA tb f.type xs f.offset, partA tb f.type ys f.offset with
    | some a, some b => (match eq f.type a b, eqF eq xs ys fs with | some p, some q => some (andB p q) | _, _ => none)
    | _, _ => none
/-- Are two values the same? For the kinds that need no look at memory. -/
noncomputable def eqA : Nat → TypeId → AV → AV → Option Bool
  | 0, _, _, _ => none
  | d + 1, t, x, y => match und tb t with
    | some .bool => (match x, y with | .bool a, .bool b => some (eqB a b) | _, _ => none)
    | some (.int _) => (match x, y with | .int j a, .int k b => bif decide (j = k) then some (eqI a b) else none | _, _ => none)
    | some .string => (match x, y with | .str a, .str b => some (eqS a b) | _, _ => none)
    | some (.pointer e) => (match x, y with
      | .ptr none, .ptr b => some b.isNone
      | .ptr (some _), .ptr none => some false
      | _, _ => none)
    | some (.func _ _ _) => (match x, y with
      | .nilFunc, .nilFunc => some true
      | .nilFunc, .func _ _ _ => some false
      | .func _ _ _, .nilFunc => some false
      | _, _ => none)
    | some (.struct fs) => bif tb.flat t then (match cellsS tb t x, cellsS tb t y with
      | some xs, some ys => bif allCellA tb xs && allCellA tb ys then eqF tb (eqA d) xs ys fs.toList else none
      | _, _ => none) else none
    | _ => none
/-- Wrapped to a kind of int. -/
def wrapI (j : IntKind) (x : Int) : Int := j.wrap x
def addW (j : IntKind) (x y : Int) : Int := j.wrap (x + y)
def subW (j : IntKind) (x y : Int) : Int := j.wrap (x - y)
def mulW (j : IntKind) (x y : Int) : Int := j.wrap (x * y)
def quoW (j : IntKind) (x y : Int) : Int := j.wrap (x.tdiv y)
def remW (x y : Int) : Int := x.tmod y
def andW (j : IntKind) (x y : Int) : Int := j.wrap (BitVec.ofInt j.bits x &&& BitVec.ofInt j.bits y).toNat
def orW (j : IntKind) (x y : Int) : Int := j.wrap (BitVec.ofInt j.bits x ||| BitVec.ofInt j.bits y).toNat
def xorW (j : IntKind) (x y : Int) : Int := j.wrap (BitVec.ofInt j.bits x ^^^ BitVec.ofInt j.bits y).toNat
def anW (j : IntKind) (x y : Int) : Int := j.wrap (BitVec.ofInt j.bits x &&& ~~~BitVec.ofInt j.bits y).toNat
def shlW (j : IntKind) (x y : Int) : Int := j.wrap (x * 2 ^ (min y.toNat j.bits))
def shrW (j : IntKind) (x y : Int) : Int := x.fdiv (2 ^ (min y.toNat j.bits))
def negW (j : IntKind) (x : Int) : Int := j.wrap (0 - x)
def comW (j : IntKind) (x : Int) : Int := j.wrap (BitVec.ofInt j.bits (if j.signed then -1 else j.max) ^^^ BitVec.ofInt j.bits x).toNat
def strOp (op : BinOp) (a b : List Nat) (k : AV → E) : E := match op with
  | .add => ck 160 (smallS a b) (k (.str (appS a b)))
  | .eql => k (.bool (eqS a b))
  | .neq => k (.bool (notB (eqS a b)))
  | .lss => k (.bool (ltS a b))
  | .leq => k (.bool (leS a b))
  | .gtr => k (.bool (notB (leS a b)))
  | .geq => k (.bool (notB (ltS a b)))
  | _ => .fail 161
def intOp (op : BinOp) (j : IntKind) (x y : Int) (k : AV → E) : E := match op with
  | .add => k (.int j (addW j x y))
  | .sub => k (.int j (subW j x y))
  | .mul => k (.int j (mulW j x y))
  | .quo => ck 162 (notB (eqI y 0)) (k (.int j (quoW j x y)))
  | .rem => ck 163 (notB (eqI y 0)) (k (.int j (remW x y)))
  | .and => k (.int j (andW j x y))
  | .or => k (.int j (orW j x y))
  | .xor => k (.int j (xorW j x y))
  | .andNot => k (.int j (anW j x y))
  | .eql => k (.bool (eqI x y))
  | .neq => k (.bool (notB (eqI x y)))
  | .lss => k (.bool (ltI x y))
  | .leq => k (.bool (leI x y))
  | .gtr => k (.bool (ltI y x))
  | .geq => k (.bool (leI y x))
  | _ => .fail 164
def shiftOp (op : BinOp) (j : IntKind) (x y : Int) (k : AV → E) : E := match op with
  | .shl => ck 165 (leI 0 y) (k (.int j (shlW j x y)))
  | .shr => ck 165 (leI 0 y) (k (.int j (shrW j x y)))
  | _ => .fail 166
noncomputable def binX (op : BinOp) (t : TypeId) (x y : AV) (k : AV → E) : E := match op with
  | .eql => opt 170 (eqA tb 10000 t x y) fun b => k (.bool b)
  | .neq => opt 171 (eqA tb 10000 t x y) fun b => k (.bool (notB b))
  | _ => .fail 172
noncomputable def binE (op : BinOp) (t : TypeId) (x y : AV) (k : AV → E) : E := match x with
  | .int j a => (match y with
    | .int j' b => (match op with
      | .shl => shiftOp .shl j a b k
      | .shr => shiftOp .shr j a b k
      | op => bif decide (j = j') then intOp op j a b k else .fail 167)
    | _ => .fail 168)
  | .str a => (match y with | .str b => strOp op a b k | _ => .fail 169)
  | x => binX tb op t x y k
def unA (op : UnOp) (x : AV) : Option AV := match op, x with
  | .neg, .int k n => some (.int k (negW k n))
  | .xor, .int k n => some (.int k (comW k n))
  | .not, .bool b => some (.bool (notB b))
  | _, _ => none
noncomputable def bytesE (us : TypeDesc) (es : List PV) (k : AV → E) : E := match us with
  | .slice e => (match und tb e with
    | some (.int .u8) => ck 123 (allByte es) (k (.str (textP es)))
    | _ => .fail 122)
  | _ => .fail 122
noncomputable def convE (src dst : TypeId) (x : AV) (k : AV → E) : E := match und tb src with
  | none => .fail 120
  | some us => (match und tb dst with
    | some (.int j) => (match x with | .int _ n => k (.int j (wrapI j n)) | _ => .fail 121)
    | some .string => (match x with
      | .str s => k x
      | .nils => bytesE tb us [] k
      | .pv t' p => bif Nat.beq src t' then bytesE tb us p.l k else .fail 122
      | .vs _ _ t' es => bif Nat.beq src t' then bytesE tb us es k else .fail 122
      | _ => .fail 124)
    | _ => .fail 127)
/-- A struct's or an array's cells with parts laid over them. -/
noncomputable def fillA (place : Nat → Option (Nat × Nat)) : List AV → List (Nat × AV) → Option (List AV)
  | cells, [] => some cells
  | cells, (i, v) :: rest => match place i with
    | none => none
    | some (off, size) => (match cellsV tb v with
      | some us => bif Nat.beq us.length size && Nat.ble (off + size) cells.length then (match lay cells off us with | some cs => fillA place cs rest | none => none) else none
      | none => none)
noncomputable def fieldPls : List Field → Option (List (Nat × Nat))
  | [] => some []
  | f :: fs => match szA tb f.type with | some n => (match fieldPls fs with | some l => some ((f.offset, n) :: l) | none => none) | none => none
noncomputable def buildA (t : TypeId) (parts : List (Nat × AV)) : Option AV := match zeroA tb t with
  | some z => (match und tb t with
    | some (.struct fs) => (match fieldPls tb fs.toList with | some pl => (match cellsV tb z with | some zs => (match fillA tb (fun i => pl[i]?) zs parts with | some cs => some (.agg cs) | none => none) | none => none) | none => none)
    | some (.array _ e) => (match szA tb e with
      | some n => (match cellsV tb z with | some zs => (match fillA tb (fun i => some (i * n, n)) zs parts with | some cs => some (.agg cs) | none => none) | none => none)
      | none => none)
    | _ => none)
  | none => none
noncomputable def normParts (e sz : TypeId) : List (Nat × AV) → Nat → Option (List PV)
  | [], _ => some []
  | (j, v) :: ps, i => bif Nat.beq i j then (match norm tb 20 e v, cellsV tb v with
    | some p, some us => bif Nat.beq us.length sz && allCellA tb us then (match normParts e sz ps (i + 1) with | some r => some (p :: r) | none => none) else none
    | _, _ => none) else none
/-- A slice of parts, each told (no gaps). -/
noncomputable def buildSliceE (t : TypeId) (len : Nat) (parts : List (Nat × AV)) (k : AV → E) : E :=
  opt 130 (elemA tb t) fun p => bif Nat.ble (len * p.2) 16777216 && Nat.beq parts.length len then
    opt 132 (zeroA tb p.1) fun z => opt 132 (cellsV tb z) fun zs => bif Nat.beq zs.length p.2 then opt 132 (normParts tb p.1 p.2 parts 0) fun es => .new (.vec t 0) fun x => k (.vs x 0 t es) else .fail 133 else .fail 133
noncomputable def narrow (t : TypeId) : Bool := match tb.ty.look t with | some i => Nat.ble i.bytes 100000 | none => false
/-- make: as long as it may hold (filled by its places), or of no length. -/
noncomputable def makeSliceE (t : TypeId) (same zero : Bool) (len cap : AV) (k : AV → E) : E := match len, cap with
  | .int _ l, .int _ c => opt 134 (elemA tb t) fun p => opt 135 (zeroA tb p.1) fun z => opt 135 (norm tb 20 p.1 z) fun zp => opt 135 (cellsV tb z) fun zs => bif narrow tb p.1 && (Nat.beq zs.length p.2 && allCellA tb zs) then
      (bif same then ck 136 (cutOk 0 l 100000) (.new (.arr t (repP l zp)) fun x => k (.ar x t))
       else bif zero then ck 136 (andB (eqI l 0) (cutOk 0 c 100000)) (.new (.vec t 0) fun x => k (.vs x 0 t []))
       else .fail 137) else .fail 137
  | _, _ => .fail 138
def intOf (d : Int) : Option AV → Option Int
  | none => some d
  | some (.int _ n) => some n
  | _ => none
noncomputable def sliceP (t : TypeId) (es : List PV) (lo hi mx : Option AV) (k : AV → E) : E := match elemA tb t with
  | some _ => opt 140 (intOf 0 lo) fun l => opt 140 (intOf (lenP es) hi) fun h => (match mx with
    | none => ck 141 (cutOk l h (lenP es)) (k (.pv t (.node (cutP es l h))))
    | some _ => bif hi.isSome then opt 140 (intOf 0 mx) fun m => ck 141 (andB (eqI h m) (cutOk l h (lenP es))) (.new (.vec t 0) fun x => k (.vs x 0 t (cutP es l h))) else .fail 142)
  | none => .fail 143
noncomputable def sliceE (t : TypeId) (x : AV) (lo hi mx : Option AV) (k : AV → E) : E := match x with
  | .str s => (match mx with
    | none => (match und tb t with
      | some .string => opt 144 (intOf 0 lo) fun l => opt 144 (intOf (lenS s) hi) fun h => ck 145 (cutOk l h (lenS s)) (k (.str (cutS s l h)))
      | _ => .fail 146)
    | some _ => .fail 147)
  | .pv t' p => bif Nat.beq t t' then sliceP tb t p.l lo hi mx k else .fail 148
  | .vs _ _ t' es => bif Nat.beq t t' then sliceP tb t es lo hi mx k else .fail 149
  | .nils => sliceP tb t [] lo hi mx k
  | _ => .fail 150
/-- What is appended. -/
noncomputable def srcOf (t u e sz : Nat) (x : AV) : Option (List PV) := match und tb u, x with | some (.slice _), .str _ => none | some (.slice _), .pv t' q => (bif Nat.beq t t' then some q.l else none) | some (.slice _), .vs _ _ t' es => (bif Nat.beq t t' then some es else none) | some (.slice _), .nils => some [] | some .string, .str b => (match und tb e with | some (.int .u8) => (bif Nat.beq sz 1 then some (bytesP b) else none) | _ => none) | _, _ => none
noncomputable def appendE (t u : TypeId) (s x : AV) (k : AV → E) : E := opt 170 (elemA tb t) fun p => opt 170 (zeroA tb p.1) fun z => opt 170 (cellsV tb z) fun zs => bif narrow tb p.1 && Nat.beq zs.length p.2 then
  opt 171 (srcOf tb t u p.1 p.2 x) fun xs => (match s with
    | .nils => ck 172 (smallP [] xs) (.new (.vec t 0) fun y => k (.vs y 0 t xs))
    | .vs y ver t' es => bif Nat.beq t t' then .get y fun o => (match o with
      | .vec vt cur => bif Nat.beq vt t && Nat.beq cur ver then ck 173 (smallP es xs) (.set y (.vec t (Nat.succ ver)) (k (.vs y (Nat.succ ver) t (appP es xs)))) else .fail 174
      | _ => .fail 175) else .fail 176
    | _ => .fail 177) else .fail 178
end
end Px
end

section
namespace Px
open Go
set_option linter.unusedVariables false
section
variable (tb : Tab)
noncomputable def lenE (t : TypeId) (x : AV) (k : AV → E) : E := match x with
  | .str s => (match und tb t with | some .string => k (.int .i64 (lenS s)) | _ => .fail 224)
  | .nils => (match und tb t with | some (.slice _) => k (.int .i64 0) | _ => .fail 225)
  | .pv t' p => (match und tb t, und tb t' with | some (.slice _), some (.slice _) => k (.int .i64 (lenP p.l)) | _, _ => .fail 225)
  | .vs _ _ t' es => (match und tb t with | some (.slice _) => k (.int .i64 (lenP es)) | _ => .fail 225)
  | .ar x t' => (match und tb t with
    | some (.slice _) => .get x fun o => (match o with | .arr st es => bif Nat.beq st t' then k (.int .i64 (lenP es)) else .fail 226 | _ => .fail 226)
    | _ => .fail 225)
  | _ => (match und tb t with | some (.array n _) => k (.int .i64 n) | _ => .fail 228)
/-- The lesser (or greater) of ints. -/
def minA (less : Bool) : AV → List AV → Option AV
  | .int j a, [] => some (.int j a)
  | .int j a, .int _ b :: l => minA less (.int j (bif less then minI b a else maxI a b)) l
  | _, _ => none
noncomputable def indexAddrE (t : TypeId) (const : Bool) (x ix : AV) (k : AV → E) : E := match ix with
  | .int _ n => (match x with
    | .pv t' p => (match und tb t, und tb t', elemA tb t with
      | some (.slice _), some (.slice _), some (e, _) => bif Nat.beq t t' then ck 240 (inP p.l n) (k (.fp e (getP p.l n))) else .fail 240
      | _, _, _ => .fail 241)
    | .vs _ _ t' es => (match elemA tb t with
      | some (e, _) => bif Nat.beq t t' then ck 242 (inP es n) (k (.fp e (getP es n))) else .fail 242
      | _ => .fail 243)
    | .ar x t' => (match elemA tb t with
      | some (e, _) => bif Nat.beq t t' then .get x fun o => (match o with
        | .arr st es => bif Nat.beq st t' then ck 244 (inP es n) (k (.ap x e n)) else .fail 244
        | _ => .fail 244) else .fail 245
      | _ => .fail 245)
    | .fp t' p => (match und tb t with
      | some (.array m e) => bif Nat.beq t t' then ck 246 (inN m n) (k (.fp e (getP p.l n))) else .fail 246
      | _ => .fail 247)
    | .ptr (some (r, off)) => (match und tb t with
      | some (.array m e) => bif const then (match szA tb e with
        | some sz => ck 248 (inN m n) (k (.ptr (some (r, off + n.toNat * sz))))
        | none => .fail 249) else .fail 249
      | _ => .fail 249)
    | _ => .fail 239)
  | _ => .fail 238
def strsA : List AV → Option (List (List Nat))
  | [] => some []
  | .str s :: l => (match strsA l with | some r => some (s :: r) | none => none)
  | _ => none
noncomputable def indexE (t : TypeId) (const : Bool) (x ix : AV) (k : AV → E) : E := match ix with
  | .int _ n => (match x with
    | .str s => (match und tb t with
      | some .string => ck 250 (inS s n) (k (.int .u8 (getS s n)))
      | _ => .fail 251)
    | .agg cs => (match und tb t with
      | some (.array m e) => bif const then (match szA tb e with
          | some sz => ck 252 (inN m n) (opt 252 (partA tb e cs (n.toNat * sz)) k)
          | none => .fail 253)
        else (match und tb e, strsA cs, szA tb e with
          | some .string, some ss, some sz => bif Nat.beq sz 1 && Nat.beq ss.length m then ck 254 (inN m n) (k (.str (pickS ss n))) else .fail 255
          | _, _, _ => .fail 255)
      | _ => .fail 256)
    | .pv t' p => (match und tb t with
      | some (.array m e) => bif Nat.beq t t' then ck 257 (inN m n) (opt 257 (expandV tb e (getP p.l n)) k) else .fail 257
      | _ => .fail 258)
    | _ => .fail 259)
  | _ => .fail 260
noncomputable def fieldA (t : TypeId) (x : AV) (i : Nat) : Option AV := match und tb t with
  | some (.struct fs) => (match fs.toList[i]? with
    | some f => (match x with
      | .agg cs => partA tb f.type cs f.offset
      | .pv t' p => bif Nat.beq t t' then expandV tb f.type (p.at i) else none
      | _ => none)
    | none => none)
  | _ => none
noncomputable def fieldAddrA (t : TypeId) (x : AV) (i : Nat) : Option AV := match und tb t with
  | some (.struct fs) => (match fs.toList[i]? with
    | some f => (match szA tb f.type with
      | some (_ + 1) => (match x with
        | .ptr (some (r, off)) => some (.ptr (some (r, off + f.offset)))
        | .fp t' p => bif Nat.beq t t' then some (.fp f.type (p.at i)) else none
        | _ => none)
      | _ => none)
    | none => none)
  | _ => none
noncomputable def assertA (x : AV) (asserted : TypeId) (ok : Bool) : Option AV := match und tb asserted with
  | none => none
  | some (.interface _) => none
  | some _ => (match x with
    | .nilIface => bif ok then (match zeroA tb asserted with | some z => some (.tuple [z, .bool false]) | none => none) else none
    | .iface t v => bif Nat.beq t asserted then some (bif ok then .tuple [v, .bool true] else v)
        else bif ok then (match zeroA tb asserted with | some z => some (.tuple [z, .bool false]) | none => none) else none
    | _ => none)
noncomputable def builtinE (b : Builtin) (ts : List TypeId) (args : List AV) (k : AV → E) : E := match b, ts, args with
  | .len, t :: _, [x] => lenE tb t x k
  | .append, [t, u], [s, x] => frzE x fun x => appendE tb t u s x k
  | .min, _, x :: l => opt 250 (minA true x l) k
  | .max, _, x :: l => opt 251 (minA false x l) k
  | _, _, _ => .fail 252
def appl (first : List AV) (args captured : List AV) : List AV := first ++ (args ++ captured)
noncomputable def evParts (a : AAct) : List (Nat × Operand) → Option (List (Nat × AV))
  | [] => some []
  | p :: ps => match evA a p.2 with | some v => (match evParts a ps with | some l => some ((p.1, v) :: l) | none => none) | none => none
def frzP : List (Nat × AV) → (List (Nat × AV) → E) → E
  | [], k => k []
  | (i, v) :: ps, k => frzE v fun v => frzP ps fun ps => k ((i, v) :: ps)
noncomputable def evO (a : AAct) : Option Operand → Option (Option AV)
  | none => some none
  | some x => match evA a x with | some v => some (some v) | none => none
def isConst : Operand → Bool
  | .const _ => true
  | _ => false
def isZero : Operand → Bool
  | .const (.int _ n) => decide (n = 0)
  | _ => false
def sameOp : Operand → Operand → Bool
  | .tmp s, .tmp t => Nat.beq s t
  | .const (.int j m), .const (.int k n) => decide (j = k) && decide (m = n)
  | _, _ => false
/-- A value without the right to be appended to. -/
def dropR : AV → AV
  | .vs _ _ t es => .pv t (.node es)
  | v => v
/-- The function behind a method of a value in an interface: of a value's own method, or of a pointer's. -/
noncomputable def methA (t : TypeId) (name : String) : Option FuncId := match tb.ty.look t, und tb t with
  | some i, some d => (match i.methods.find? (fun m => m.name == name) with
    | some m => (match m.path.toList, m.func, d with
      | [], some (f, true), .pointer _ => some f
      | [], some (_, false), .pointer _ => none
      | [], some (f, false), _ => some f
      | _, _, _ => none)
    | none => none)
  | _, _ => none
def wantsR (g : Nat → Bool) : Option Tmp → Bool
  | some d => g d
  | none => false
def opR (g : Nat → Bool) : Operand → Bool
  | .tmp d => g d
  | _ => false
/-- A nil slice that goes into a variable of that type gets the right to be appended to, where the variable is one of those (g). -/
noncomputable def opE (g : Nat → Bool) (call : FuncId → List AV → (AV → E) → E) (a : AAct) (o : Oper) (k : AV → E) : E := match o.op with
  | .move x => opt 300 (evA a x) k
  | .assign x => opt 301 (evA a x) fun v => phanG tb (wantsR g o.dst) o.type v k
  | .pick c x y => opt 302 (evA a x) fun u => opt 302 (evA a y) fun v => (match evA a c with | some (.bool b) => .ite b (k u) (k v) | _ => .fail 303)
  | .alloc e => opt 304 (zeroA tb e) fun z => phanG tb (wantsR g o.dst) e z fun z => bif boxOk tb e z then .new (.box e z) fun c => k (.ptr (some (c, 0))) else .fail 304
  | .box e x => opt 305 (evA a x) fun v => frzE v fun v => phanG tb (wantsR g o.dst) e v fun v => bif boxOk tb e v then .new (.box e v) fun c => k (.ptr (some (c, 0))) else .fail 305
  | .build t ps => opt 307 (evParts a ps.toList) fun l => frzP l fun l => opt 308 (buildA tb t l) k
  | .buildSlice t n ps => opt 309 (evParts a ps.toList) fun l => frzP l fun l => buildSliceE tb t n l k
  | .load t x => opt 311 (evA a x) fun v => loadE tb t v k
  | .store t x y => opt 312 (evA a x) fun v => opt 312 (evA a y) fun u => frzE u fun u => storeE tb (opR g x) t v u (k undA)
  | .nilCheck x => (match evA a x with
    | some (.ptr (some p)) => k (.ptr (some p))
    | some (.fp t p) => k (.fp t p)
    | some (.func (.func f) l m) => k (.func (.func f) l m)
    | some (.iface t v) => k (.iface t v)
    | _ => .fail 313)
  | .binOp op t x y _ => opt 314 (evA a x) fun u => opt 314 (evA a y) fun v => binE tb op t u v k
  | .unOp op _ x => opt 316 (evA a x) fun x => opt 317 (unA op x) k
  | .convert s d x => opt 318 (evA a x) fun x => frzE x fun x => convE tb s d x k
  | .makeInterface t x => opt 319 (evA a x) fun v => frzE v fun v => (match und tb t with | some (.interface _) => .fail 320 | some _ => k (.iface t (dropR v)) | none => .fail 321)
  | .makeFunc fn f c => (match fn with
    | .func g => opt 322 (evL a f.toList) fun l => frzL l fun l => opt 323 (evL a c.toList) fun m => frzL m fun m => k (.func (.func g) (l.map dropR) (m.map dropR))
    | _ => .fail 324)
  | .makeSlice t l c => opt 326 (evA a l) fun x => opt 326 (evA a c) fun y => makeSliceE tb t (sameOp l c) (isZero l) x y k
  | .slice t x lo hi mx => opt 327 (evA a x) fun x => opt 328 (evO a lo) fun lo => opt 328 (evO a hi) fun hi => opt 328 (evO a mx) fun mx => sliceE tb t x lo hi mx k
  | .fieldAddr t x i => opt 329 (evA a x) fun x => opt 330 (fieldAddrA tb t x i) k
  | .field t x i => opt 331 (evA a x) fun x => opt 332 (fieldA tb t x i) k
  | .indexAddr t x i => opt 333 (evA a x) fun x => opt 333 (evA a i) fun j => indexAddrE tb t (isConst i) x j k
  | .index t x i => opt 334 (evA a x) fun x => opt 334 (evA a i) fun j => indexE tb t (isConst i) x j k
  | .typeAssert x _ t ok => opt 340 (evA a x) fun x => opt 341 (assertA tb x t ok) k
  | .extract x i => (match evA a x with | some (.tuple l) => opt 342 (l[i]?) k | _ => .fail 343)
  | .call c => opt 344 (evL a c.args.toList) fun args => (match c.callee with
    | .builtin b => builtinE tb b c.argTypes.toList args k
    | .value f => (match evA a f with
      | some (.func (.func g) l m) => frzL args fun args => call g (appl l args m) k
      | _ => .fail 345)
    | .invoke r name => (match evA a r with
      | some (.iface t v) => frzL args fun args => opt 346 (methA tb t name) fun f => call f (v :: args) k
      | _ => .fail 348))
  | _ => .fail 347
/-- Is an operation carried out? A truth value that is not known is taken both ways. -/
noncomputable def wantE (all : List Oper) (a : AAct) (o : Oper) (yes no : AAct → E) : E := match o.guard with
  | none => yes a
  | some (j, want) => (match all[j]? with
    | some p => (match p.dst with
      | some d => (match a.at d with
        | .bool b => .ite b (bif want then yes (a.put (some d) (.bool true)) else no (a.put (some d) (.bool true))) (bif want then no (a.put (some d) (.bool false)) else yes (a.put (some d) (.bool false)))
        | .dead => .fail 400
        | .pv _ _ => .fail 400
        | _ => no a)
      | none => no a)
    | none => no a)
def dstOk (sz : Nat) : Option Tmp → Bool | some d => Nat.blt d sz | none => true
noncomputable def regS (op : AAct → Oper → (AV → E) → E) (all : List Oper) : List Oper → AAct → (AAct → E) → E
  | [], a, k => k a
  | o :: rest, a, k => bif dstOk a.sz o.dst then wantE all a o (fun a => op a o fun v => regS op all rest (a.put o.dst v) k) (fun a => regS op all rest (a.put o.dst undA) k) else .fail 402
structure Step where
  i : Nat
  c0 : Nat
  c1 : Nat
  F : Foot
/-- Does operation i stand before operation j, by the edges? -/
def befB (all : List Oper) : Nat → Nat → Nat → Bool
  | 0, _, _ => false
  | n + 1, i, j => match all[j]? with
    | some o => o.after.toList.any fun e => Region.binds .any e && (Nat.beq e.on i || befB all n i e.on)
    | none => false
/-- Must the earlier of two parts go ahead of the later one? -/
noncomputable def clash (p q : Step) : Bool := q.F.keys.any fun x => (Nat.ble p.c0 x && Nat.blt x p.c1) ||
  (match p.F.mark.look x with
  | none => false
  | some true => true
  | some false => (match q.F.mark.look x with | some false => false | _ => true))
noncomputable def clashFree (all : List Oper) : List Step → Bool
  | [] => true
  | q :: l => l.all (fun p => !(clash p q) || befB all all.length p.i q.i) && clashFree all l
noncomputable def regD (op : AAct → Oper → (AV → E) → E) (all : List Oper) : List Oper → Nat → AAct → List Step → (AAct → E) → E
  | [], _, a, acc, k => bif clashFree all acc then k a else .fail 403
  | o :: rest, i, a, acc, k => bif dstOk a.sz o.dst then wantE all a o
      (fun a => .scope (op a o .pure) fun v c0 c1 F mb => bif mb then .fail 406 else regD op all rest (i + 1) (a.put o.dst v) (⟨i, c0, c1, F⟩ :: acc) k)
      (fun a => regD op all rest (i + 1) (a.put o.dst undA) acc k) else .fail 405
/-- The edges go back, and what stands in no order shares no slot. -/
def lookT (all : List Oper) (o : Oper) : List Tmp :=
  (o.op.operands.toList.filterMap fun | .tmp t => some t | _ => none) ++ (match o.guard with
    | some (g, _) => (match all[g]? with | some p => p.dst.toList | none => [])
    | none => [])
def apartT (all : List Oper) (x y : Oper) : Bool :=
  (match x.dst with | some d => !(lookT all y).contains d && y.dst != some d | none => true) && (match y.dst with | some d => !(lookT all x).contains d | none => true)
def regOk (all : List Oper) : Bool :=
  (List.range all.length).all fun j => match all[j]? with
    | some o => o.after.toList.all (fun e => !Region.binds .any e || Nat.blt e.on j) && (List.range j).all fun i => befB all all.length i j || (match all[i]? with | some p => apartT all p o | none => true)
    | none => true
inductive Ex where
  | normal
  | ret
  | exit (id : Nat)
end
/-! What a call or a loop is handed, in names of its own. -/
mutual
def namesA : AV → List Nat
  | .ptr (some q) => [q.1]
  | .vs x _ _ _ => [x]
  | .ar x _ => [x]
  | .ap x _ _ => [x]
  | .map (some x) => [x]
  | .func _ f c => namesL f ++ namesL c
  | .iface _ v => namesA v
  | .agg cs => namesL cs
  | .tuple vs => namesL vs
  | _ => []
def namesL : List AV → List Nat
  | [] => []
  | a :: as => namesA a ++ namesL as
end
def namesO : AObj → List Nat
  | .box _ v => namesA v
  | _ => []
def memN (x : Nat) : List Nat → Bool
  | [] => false
  | y :: l => Nat.beq x y || memN x l
def idxN (x : Nat) : List Nat → Nat
  | [] => 0
  | y :: l => bif Nat.beq x y then 0 else Nat.succ (idxN x l)
/-- All that names lead to, in the order in which it is met. -/
def reachE : Nat → List Nat → List Nat → List AObj → (List Nat → List AObj → E) → E
  | 0, _, _, _, _ => .fail 700
  | n + 1, queue, seen, objs, k => match queue with
    | [] => k seen objs
    | x :: q => bif memN x seen then reachE n q seen objs k else .get x fun o => reachE n (q ++ namesO o) (seen ++ [x]) (objs ++ [o]) k
def curOf : List Nat → List AObj → Nat → Option Nat
  | y :: l, o :: os, x => bif Nat.beq x y then (match o with | .vec _ ver => some ver | _ => none) else curOf l os x
  | _, _, _ => none
/-- A name that leads to a variable or to a slice that is filled. -/
def isPl : List Nat → List AObj → Nat → Bool
  | y :: l, o :: os, x => bif Nat.beq x y then (match o with | .vec _ _ => false | _ => true) else isPl l os x
  | _, _, _ => false
/-- What has a place keeps its number. -/
def keepN : List Nat → List AObj → Nat → Bool
  | y :: l, o :: os, i => (match o with | .vec _ _ => true | _ => Nat.beq y i) && keepN l os (i + 1)
  | _, _, _ => true
section
variable (seen : List Nat) (objs : List AObj)
mutual
def packA : AV → AV
  | .ptr (some q) => bif isPl seen objs q.1 then .ptr (some (idxN q.1 seen, q.2)) else .dead
  | .vs x ver t es => (match curOf seen objs x with
    | some cur => bif Nat.beq cur ver then .vs (idxN x seen) 0 t es else .pv t (.node es)
    | none => .pv t (.node es))
  | .ar x t => bif isPl seen objs x then .ar (idxN x seen) t else .dead
  | .ap x t i => bif isPl seen objs x then .ap (idxN x seen) t i else .dead
  | .map (some x) => .dead
  | .func fn f c => .func fn (packL f) (packL c)
  | .iface t v => .iface t (packA v)
  | .agg cs => .agg (packL cs)
  | .tuple vs => .tuple (packL vs)
  | v => v
def packL : List AV → List AV
  | [] => []
  | a :: as => packA a :: packL as
end
end
mutual
def noVs : AV → Bool
  | .vs _ _ _ _ => false
  | .agg cs => noVsL cs
  | _ => true
def noVsL : List AV → Bool
  | [] => true
  | a :: as => noVs a && noVsL as
end
section
variable (tb : Tab)
/-- A value told as a whole, if it is data and nothing may be appended to it. -/
noncomputable def wholeV (t : TypeId) (v : AV) : AV := bif noVs v then (match norm tb 20 t v with
  | some p => (match expandV tb t p with | some u => u | none => v)
  | none => v) else v
noncomputable def packO (seen : List Nat) (objs : List AObj) : AObj → AObj
  | .box t v => .box t (wholeV tb t (packA seen objs v))
  | .vec t _ => .vec t 0
  | o => o
noncomputable def aggV : AV → Option (List AV)
  | .agg cs => some cs
  | .pv t p => (match isAggA tb t with | some true => expandC tb 20 t p | _ => none)
  | _ => none
/-- The data of a value, as another one is shaped. -/
noncomputable def conform : AV → AV → Option (List PV)
  | .dead, _ => some []
  | .bool _, a => (match a with | .bool b => some [.bool b] | _ => none)
  | .int k _, a => (match a with | .int k' n => bif decide (k = k') then some [.int n] else none | _ => none)
  | .str _, a => (match a with | .str s => some [.str s] | _ => none)
  | .pv t _, a => (match norm tb 20 t a with | some p => some [p] | none => none)
  | .fp t _, a => (match a with | .fp t' p => bif Nat.beq t t' then some [p] else none | _ => none)
  | .vs x ver t _, a => (match a with | .vs x' ver' t' es => bif Nat.beq x x' && Nat.beq ver ver' && Nat.beq t t' then some [.node es] else none | _ => none)
  | .nils, a => (match a with | .nils => some [] | _ => none)
  | .nilFunc, a => (match a with | .nilFunc => some [] | _ => none)
  | .nilIface, a => (match a with | .nilIface => some [] | _ => none)
  | .ptr none, a => (match a with | .ptr none => some [] | _ => none)
  | .ptr (some q), a => (match a with | .ptr (some r) => bif Nat.beq q.1 r.1 && Nat.beq q.2 r.2 then some [] else none | _ => none)
  | .glob g o, a => (match a with | .glob g' o' => bif Nat.beq g g' && Nat.beq o o' then some [] else none | _ => none)
  | .ar x t, a => (match a with | .ar x' t' => bif Nat.beq x x' && Nat.beq t t' then some [] else none | _ => none)
  | .ap x t _, a => (match a with | .ap x' t' i => bif Nat.beq x x' && Nat.beq t t' then some [.int i] else none | _ => none)
  | .func (.func f) l m, a => (match a with | .func (.func f') l' m' => bif Nat.beq f f' then (match conformL l l', conformL m m' with | some x, some y => some (x ++ y) | _, _ => none) else none | _ => none)
  | .iface t v, a => (match a with | .iface t' v' => bif Nat.beq t t' then conform v v' else none | _ => none)
  | .agg cs, a => (match aggV tb a with | some cs' => conformL cs cs' | none => none)
  | .tuple cs, a => (match a with | .tuple cs' => conformL cs cs' | _ => none)
  | _, _ => none
where conformL : List AV → List AV → Option (List PV)
  | [], [] => some []
  | x :: xs, a :: as => (match conform x a, conformL xs as with | some l, some m => some (l ++ m) | _, _ => none)
  | _, _ => none
end
def hd : List PV → PV
  | [] => .node []
  | p :: _ => p
def tl : List PV → List PV
  | [] => []
  | _ :: l => l
mutual
/-- A value shaped as another one, of other data; and the data that are left. -/
def refill : AV → List PV → AV × List PV
  | .bool _, l => (.bool (hd l).b, tl l)
  | .int k _, l => (.int k (hd l).i, tl l)
  | .str _, l => (.str (hd l).s, tl l)
  | .pv t _, l => (.pv t (hd l), tl l)
  | .fp t _, l => (.fp t (hd l), tl l)
  | .vs x ver t _, l => (.vs x ver t (hd l).l, tl l)
  | .ap x t _, l => (.ap x t (hd l).i, tl l)
  | .func fn f c, l => ((.func fn (refillL f l).1 (refillL c (refillL f l).2).1), (refillL c (refillL f l).2).2)
  | .iface t v, l => (.iface t (refill v l).1, (refill v l).2)
  | .agg cs, l => (.agg (refillL cs l).1, (refillL cs l).2)
  | .tuple cs, l => (.tuple (refillL cs l).1, (refillL cs l).2)
  | v, l => (v, l)
def refillL : List AV → List PV → List AV × List PV
  | [], l => ([], l)
  | a :: as, l => ((refill a l).1 :: (refillL as (refill a l).2).1, (refillL as (refill a l).2).2)
end
section
variable (tb : Tab)
noncomputable def conformO : AObj → AObj → Option (List PV)
  | .box t v, o => (match o with | .box t' v' => bif Nat.beq t t' then conform tb v v' else none | _ => none)
  | .vec t ver, o => (match o with | .vec t' ver' => bif Nat.beq t t' && Nat.beq ver ver' then some [] else none | _ => none)
  | .arr t _, o => (match o with | .arr t' es => bif Nat.beq t t' then some [.node es] else none | _ => none)
  | .dead, o => (match o with | .dead => some [] | _ => none)
  | .map _ _, _ => none
noncomputable def conformOs : List AObj → List AObj → Option (List PV)
  | [], [] => some []
  | x :: xs, o :: os => (match conformO tb x o, conformOs xs os with | some l, some m => some (l ++ m) | _, _ => none)
  | _, _ => none
end
def refillO : AObj → List PV → AObj × List PV
  | .box t v, l => (.box t (refill v l).1, (refill v l).2)
  | .arr t _, l => (.arr t (hd l).l, tl l)
  | o, l => (o, l)
def refillOs : List AObj → List PV → List AObj × List PV
  | [], l => ([], l)
  | o :: os, l => ((refillO o l).1 :: (refillOs os (refillO o l).2).1, (refillOs os (refillO o l).2).2)
def nthO : List AObj → Nat → Option AObj
  | [], _ => none
  | o :: _, 0 => some o
  | _ :: os, n + 1 => nthO os n
def nthL : List Nat → Nat → Nat
  | [], _ => 0
  | x :: _, 0 => x
  | _ :: l, n + 1 => nthL l n
section
variable (seen : List Nat) (objs : List AObj)
/-- The version that a right has once it was handed back. -/
def nextVer (i : Nat) : Nat := match nthO objs i with | some (.vec _ ver) => Nat.succ ver | _ => 0
mutual
def backA : AV → AV
  | .ptr (some q) => .ptr (some (nthL seen q.1, q.2))
  | .vs x _ t es => .vs (nthL seen x) (nextVer objs x) t es
  | .ar x t => .ar (nthL seen x) t
  | .ap x t i => .ap (nthL seen x) t i
  | .map (some x) => .map (some (nthL seen x))
  | .func fn f c => .func fn (backL f) (backL c)
  | .iface t v => .iface t (backA v)
  | .agg cs => .agg (backL cs)
  | .tuple vs => .tuple (backL vs)
  | v => v
def backL : List AV → List AV
  | [] => []
  | a :: as => backA a :: backL as
end
def backO (i : Nat) : AObj → AObj
  | .box t v => .box t (backA seen objs v)
  | .vec t _ => .vec t (nextVer objs i)
  | o => o
def setsE : List AObj → Nat → E → E
  | [], _, k => k
  | o :: os, i, k => .set (nthL seen i) (backO seen objs i o) (setsE os (i + 1) k)
end
def isAns (r : Ans) : Bool := r.isSome
def ansP : Ans → PV
  | some r => r.1
  | none => .node []
def ansL : Ans → List PV
  | some r => r.2
  | none => []
section
variable (tb : Tab)
noncomputable def normArg (t : TypeId) (a : AV) : AV := match norm tb 20 t a with
  | some p => (match expandV tb t p with | some u => u | none => a)
  | none => a
noncomputable def normArgs : List TypeId → List AV → List AV
  | t :: ts, a :: as => normArg tb t a :: normArgs ts as
  | _, as => as
noncomputable def resultsV : List TypeId → PV → Nat → Option (List AV)
  | [], _, _ => some []
  | t :: ts, p, i => match expandV tb t (p.at i), resultsV ts p (i + 1) with | some v, some l => some (v :: l) | _, _ => none
noncomputable def resultV (ts : List TypeId) (p : PV) : Option AV := match ts with
  | [] => some undA
  | [t] => expandV tb t p
  | ts => (match resultsV tb ts p 0 with | some l => some (.tuple l) | none => none)
def fuel0 : Nat := 200
/-- A call that is run apart, in names of its own. -/
noncomputable def callIso (cx : FuncId → List AV → List AObj → Ans) (f : FuncId) (args : List AV) (k : AV → E) : E := match tb.fn.look f with
  | none => .fail 500
  | some fn => (fun as => reachE fuel0 (namesL as) [] [] fun seen objs =>
      (fun co => (fun r => ck 501 (isAns r) (setsE seen objs (refillOs co (ansL r)).1 0 (opt 502 (resultV tb fn.resultTypes.toList (ansP r)) k)))
        (cx f (packL seen objs as) co)) (objs.map (packO tb seen objs))) (normArgs tb fn.params.toList args)
noncomputable def resL (a : AAct) : List ResultVar → (List AV → E) → E
  | [], k => k []
  | .tmp t :: l, k => frzE (a.at t) fun v => resL a l fun vs => k (v :: vs)
  | .cell x t :: l, k => loadE tb t (a.at x) fun v => resL a l fun vs => k (v :: vs)
noncomputable def normL : List TypeId → List AV → Option (List PV)
  | [], [] => some []
  | t :: ts, a :: as => (match norm tb 20 t a, normL ts as with | some p, some l => some (p :: l) | _, _ => none)
  | _, _ => none
def resP : List PV → PV
  | [p] => p
  | l => .node l
/-- What is answered: data first, then the data of what was handed over. -/
def answer (p : PV) (ls : List PV) : E := .pure (.tuple (.pv 0 p :: ls.map fun q => .pv 0 q))
def tupleOf : List AV → AV
  | [v] => v
  | vs => .tuple vs
def pvs : List AV → Option (List PV)
  | [] => some []
  | .pv _ p :: l => (match pvs l with | some r => some (p :: r) | none => none)
  | _ => none
/-- Told back, if what was handed over is shaped as it was. -/
noncomputable def closeE (vs : List AV) (es : List AV) (os : List AObj) (p : PV) : E :=
  reachE fuel0 (namesL vs) [] [] fun seen objs => bif keepN seen objs 0 then opt 510 (conform.conformL tb es (packL seen objs vs)) (fun l => opt 511 (conformOs tb os (objs.map (packO tb seen objs))) fun m => answer p (l ++ m)) else .fail 512
end
/-- What is answered, gone on with. -/
noncomputable def bindA (r : Ans) (K : PV → List PV → Ans) : Ans := @Bool.rec (fun _ => Ans) none (K (ansP r) (ansL r)) (isAns r)
noncomputable def needA (q : Bool) (r : Ans) : Ans := @Bool.rec (fun _ => Ans) none r q
/-- A plain program run, gone on with. -/
noncomputable def E.runK (e : E) : T AObj → Nat → Nat → Foot → (AV → T AObj → Nat → Foot → Ans) → Ans :=
  @E.rec (fun _ => T AObj → Nat → Nat → Foot → (AV → T AObj → Nat → Foot → Ans) → Ans)
    (fun v h c _ F K => K v h c F)
    (fun _ _ _ _ _ _ => none)
    (fun x _ ih h c b F K => @Bool.rec (fun _ => Ans) none (@Option.rec AObj (fun _ => Ans) none (fun o => ih o h c b (F.touch b x false) K) (h.look x)) (Nat.blt x c))
    (fun x o _ ih h c b F K => @Bool.rec (fun _ => Ans) none (ih (h.put o x) c b (F.touch b x true) K) (Nat.blt x c))
    (fun o _ ih h c b F K => ih c (h.put o c) (Nat.succ c) b F K)
    (fun _ _ _ _ _ _ _ _ => none)
    (fun q _ _ ihx ihy h c b F K => @Bool.rec (fun _ => Ans) (ihy h c b F K) (ihx h c b F K) q)
    (fun _ _ ihe ihk h c b F K => ihe h c c Foot.empty fun v h1 c1 F1 => ihk v c c1 F1 false h1 c1 b (F.merge b F1) K) e
/-- A value answered, as an answer. -/
def answerOf (v : AV) : Ans := match v with
  | .tuple (.pv _ p :: l) => (match pvs l with | some ls => some (p, ls) | none => none)
  | _ => none
/-- Rounds of a loop: data in, the way out and data out; the way out 0 goes on. -/
noncomputable def loopX : Nat → (List PV → (PV → List PV → Ans) → Ans) → List PV → Ans
  | 0, _, _ => none
  | m + 1, st, ls => st ls fun c ls' => @Bool.rec (fun _ => Ans) (some (c, ls')) (loopX m st ls') (eqI c.i 0)
/-- One round: data in, the way out and data out. -/
noncomputable def joinX (st : List PV → (PV → List PV → Ans) → Ans) (ls : List PV) : Ans := st ls fun c ls' => some (c, ls')
def exitsRaw : Code → List Nat
  | .seq a b => exitsRaw a ++ exitsRaw b
  | .cond _ a b => exitsRaw a ++ exitsRaw b
  | .block id b => (exitsRaw b).filter fun j => !(Nat.beq j (id + 2))
  | .loop b => exitsRaw b
  | .scope b => exitsRaw b
  | .exit id => [id + 2]
  | .ret => [1]
  | _ => []
def addN (x : Nat) (l : List Nat) : List Nat := bif memN x l then l else x :: l
def dedupN : List Nat → List Nat
  | [] => []
  | x :: l => addN x (dedupN l)
def exitsOf (c : Code) : List Nat := dedupN (exitsRaw c)
def exCode : Ex → Int
  | .normal => 0
  | .ret => 1
  | .exit j => Int.ofNat (j + 2)
def exOf : Nat → Ex
  | 0 => .normal
  | 1 => .ret
  | j + 2 => .exit j
def exN : Ex → Nat
  | .normal => 0
  | .ret => 1
  | .exit j => j + 2
def outE (p : PV) (k : Nat → E) : List Nat → E
  | [] => .fail 520
  | j :: js => .ite (eqI p.i (Int.ofNat j)) (k j) (outE p k js)
/-- Values as they are shaped at a way out. -/
def shapesL : List (Option AV) → List AV → List AV
  | o :: os, e :: es => (match o with | some s => s | none => e) :: shapesL os es
  | _, es => es
def loopSh (sh : Nat → List (Option AV)) (es : List AV) : Nat → List AV
  | 0 => es
  | j + 1 => shapesL (sh (j + 1)) es
def joinSh (sh : Nat → List (Option AV)) (es : List AV) (j : Nat) : List AV := shapesL (sh j) es
def headId : Code → Nat
  | .region id _ _ => id
  | .seq a _ => headId a
  | .block _ b => headId b
  | .loop b => headId b
  | .scope b => headId b
  | .cond _ a _ => headId a
  | _ => 0
section
variable (tb : Tab)
noncomputable def atL (a : AAct) (g : Nat → Bool) : List Nat → List AV
  | [] => []
  | t :: ts => (bif g t then a.at t else dropR (a.at t)) :: atL a g ts
noncomputable def putL (z : Nat) : List Nat → List AV → AAct → AAct
  | t :: ts, v :: vs, a => putL z ts vs (a.put (some t) v)
  | _, _, a => a
/-- One round: from data to data. -/
noncomputable def roundX (code : AAct → (Ex → AAct → E) → E) (sz : Nat) (lv : List Nat) (g : Nat → Bool) (es : List AV) (es2 : Nat → List AV) (os : List AObj) (ls : List PV) (K : PV → List PV → Ans) : Ans :=
  (fun r1 => (fun r2 => (code (putL 0 lv r1.1 ⟨sz, .leaf⟩) fun ex a => bif Nat.beq a.sz sz then closeE tb (atL a g lv) (es2 (exN ex)) os (.int (exCode ex)) else .fail 521).runK (T.ofL r2.1 0 .leaf) os.length 0 Foot.empty
    fun v _ _ _ => (match answerOf v with | some r => K r.1 r.2 | none => none)) (refillOs os r1.2)) (refillL es ls)
/-- What was run apart, gone on with at its way out. -/
noncomputable def backE (lv : List Nat) (es2 : Nat → List AV) (os : List AObj) (seen : List Nat) (objs : List AObj) (sz : Nat) (r : Ans) (outs : List Nat) (k : Ex → AAct → E) : E :=
  outE (ansP r) (fun j => (fun r1 => setsE seen objs (refillOs os r1.2).1 0 (k (exOf j) (putL 0 lv (backL seen objs r1.1) ⟨sz, .leaf⟩))) (refillL (es2 j) (ansL r))) outs
/-- Values that are data of a type, told as such. -/
noncomputable def normS : List (Option AV) → List AV → List AV
  | o :: os, v :: vs => (match o with | some (.pv t _) => normArg tb t v | _ => v) :: normS os vs
  | _, vs => vs
noncomputable def loopE (m : Nat) (lv : List Nat) (g : Nat → Bool) (sh : Nat → List (Option AV)) (code : AAct → (Ex → AAct → E) → E) (outs : List Nat) (a : AAct) (k : Ex → AAct → E) : E :=
  (fun vs => reachE fuel0 (namesL vs) [] [] fun seen objs =>
    (fun es => (fun os => opt 530 (conform.conformL tb es es) fun l0 => opt 530 (conformOs tb os os) fun m0 =>
      (fun r => ck 531 (isAns r) (backE lv (loopSh sh es) os seen objs a.sz r outs k))
        (loopX m (roundX tb code a.sz lv g es (loopSh sh es) os) (l0 ++ m0))) (objs.map (packO tb seen objs))) (packL seen objs vs)) (normS tb (sh 0) (atL a g lv))
/-- A part that ways lead out of, met again: run apart, as one round. -/
noncomputable def joinE (lv : List Nat) (g : Nat → Bool) (sh : Nat → List (Option AV)) (code : AAct → (Ex → AAct → E) → E) (outs : List Nat) (a : AAct) (k : Ex → AAct → E) : E :=
  (fun vs => reachE fuel0 (namesL vs) [] [] fun seen objs =>
    (fun es => (fun os => opt 530 (conform.conformL tb es es) fun l0 => opt 530 (conformOs tb os os) fun m0 =>
      (fun r => ck 531 (isAns r) (backE lv (joinSh sh es) os seen objs a.sz r outs k))
        (joinX (roundX tb code a.sz lv g es (joinSh sh es) os) (l0 ++ m0))) (objs.map (packO tb seen objs))) (packL seen objs vs)) (atL a g lv)
/-- A function's code; m: rounds that a loop may have; live: what is wanted around a loop. -/
noncomputable def codeW (call : FuncId → List AV → (AV → E) → E) (m : Nat) (live : Nat → List Nat) (g : Nat → Bool) (sh : Nat → Nat → List (Option AV)) (c : Code) : AAct → (Ex → AAct → E) → E :=
  @Code.rec (fun _ => AAct → (Ex → AAct → E) → E)
    (fun a k => k .normal a)
    (fun _ ops draw a k => bif draw then
        (bif regOk ops.toList then regD (opE tb g call) ops.toList ops.toList 0 a [] fun a' => k .normal a' else .fail 602)
        else regS (opE tb g call) ops.toList ops.toList a fun a' => k .normal a')
    (fun x y ihx ihy a k => (fun k' => (match live (1000000 + headId y) with
      | [] => ihx a k'
      | l :: lv => joinE tb (l :: lv) g (sh (1000000 + headId y)) ihx (0 :: exitsOf x) a k')) fun e a' => (match e with | .normal => ihy a' k | e => k e a'))
    (fun c _ _ ihx ihy a k => (match c with
      | .tmp t => (match a.at t with
        | .bool b => .ite b (ihx (a.put (some t) (.bool true)) k) (ihy (a.put (some t) (.bool false)) k)
        | _ => .fail 601)
      | _ => .fail 604))
    (fun id _ ih a k => ih a fun e a' => (match e with
      | .exit j => bif Nat.beq j id then k .normal a' else k (.exit j) a'
      | e => k e a'))
    (fun b ih a k => loopE tb m (live (headId b)) g (sh (headId b)) ih (exitsOf b) a k)
    (fun _ _ _ _ _ _ _ _ => .fail 603)
    (fun id a k => k (.exit id) a)
    (fun _ ih a k => ih a k)
    (fun _ a k => k .normal a)
    (fun _ _ _ => .fail 605)
    (fun a k => k .ret a)
    (fun _ _ _ => .fail 606) c
end
section
variable (tb : Tab)
noncomputable def act0 (args : List AV) (n : Nat) : AAct := ⟨max args.length n, T.ofL args 0 .leaf⟩
/-- Calls: a function that is run in its caller's memory, or apart. -/
noncomputable def callN (cx : FuncId → List AV → List AObj → Ans) (m : Nat) : Nat → FuncId → List AV → (AV → E) → E :=
  @Nat.rec (fun _ => FuncId → List AV → (AV → E) → E) (fun f args k => callIso tb cx f args k)
    (fun _ ih f args k => bif tb.inl f then (match tb.fn.look f with
      | some fn => (match fn.body with
        | some c => codeW tb ih m (tb.live f) (tb.grow f) (tb.shape f) c (act0 args fn.ntmps) fun e a => (match e with
          | .exit _ => .fail 540
          | _ => resL tb a fn.results.toList fun vs => k (tupleOf vs))
        | none => .fail 541)
      | none => .fail 542) else callIso tb cx f args k)
/-- A function's end: its results as data, and what it was handed, as it is now. -/
noncomputable def finE (args : List AV) (objs : List AObj) (p : PV) : E :=
  reachE fuel0 (namesL args) [] [] fun seen os => bif keepN seen os 0 then opt 511 (conformOs tb objs (os.map (packO tb seen os))) (fun m => answer p m) else .fail 512
noncomputable def bodyX (cx : FuncId → List AV → List AObj → Ans) (m : Nat) (f : FuncId) (args : List AV) (objs : List AObj) : Ans := match tb.fn.look f with
  | some fn => (match fn.body with
    | some c => (codeW tb (callN tb cx m 8) m (tb.live f) (tb.grow f) (tb.shape f) c (act0 args fn.ntmps) fun e a => (match e with
        | .exit _ => .fail 543
        | _ => resL tb a fn.results.toList fun vs => opt 544 (normL tb fn.resultTypes.toList vs) fun ps => finE tb args objs (resP ps))).runK (T.ofL objs 0 .leaf) objs.length 0 Foot.empty fun v _ _ _ => answerOf v
    | none => none)
  | none => none
/-- What a function answers: data, of data and of memory handed over; k: how deep, and how many rounds. -/
noncomputable def callX : Nat → FuncId → List AV → List AObj → Ans :=
  @Nat.rec (fun _ => FuncId → List AV → List AObj → Ans) (fun _ _ _ => none) (fun k ih f args objs => match tb.given f with
    | some g => g args objs
    | none => bodyX tb ih k f args objs)
end
/-! Marks: what is wanted around each loop and each meeting of ways, and how it is shaped at each way out (0: as it came in, 1: not wanted, t + 2: data of type t). -/
def assocN {α : Type} (d : α) : List (Nat × α) → Nat → α
  | [], _ => d
  | (k, v) :: l, n => bif Nat.beq k n then v else assocN d l n
abbrev Marks := List (Nat × List (Nat × (List Nat × List (Nat × List Nat))))
def liveM (m : Marks) (f b : Nat) : List Nat := (assocN ([], []) (assocN [] m f) b).1
noncomputable def shapeC (ty : T TypeInfo) : Nat → Option AV
  | 0 => none
  | 1 => some .dead
  | t + 2 => expandV ⟨ty, .leaf, fun _ => none, fun _ => false, fun _ _ => false, fun _ _ => [], fun _ _ _ => [], fun _ => false⟩ t (.node [])
noncomputable def shapeM (ty : T TypeInfo) (m : Marks) (f b j : Nat) : List (Option AV) := (assocN [] (assocN ([], []) (assocN [] m f) b).2 j).map (shapeC ty)
end Px
end

section
namespace Px
open Go Go.RowKit
set_option linter.unusedVariables false
set_option linter.unusedSimpArgs false
/-- Where a name's memory lies: a block, a place in it, and how many cells from there are its own. -/
structure Place where
  b : Nat
  o : Nat
  r : Nat
/-- What is told of a world: names' places, the slices that a right to append has stood for, cells that never turn. -/
structure Mu where
  pl : Nat → Option Place
  sl : Nat → Nat → Option Value
  fz : Nat → Nat → Option Value
structure Ext (μ μ' : Mu) : Prop where
  pl : ∀ x p, μ.pl x = some p → μ'.pl x = some p
  sl : ∀ x n v, μ.sl x n = some v → μ'.sl x n = some v
  fz : ∀ b o v, μ.fz b o = some v → μ'.fz b o = some v
theorem Ext.refl (μ : Mu) : Ext μ μ := ⟨fun _ _ h => h, fun _ _ _ h => h, fun _ _ _ h => h⟩
theorem Ext.trans {μ μ1 μ2 : Mu} (h : Ext μ μ1) (k : Ext μ1 μ2) : Ext μ μ2 := ⟨fun x p e => k.pl x p (h.pl x p e), fun x n v e => k.sl x n v (h.sl x n v e), fun b o v e => k.fz b o v (h.fz b o v e)⟩
abbrev Fz := Nat → Nat → Option Value
/-- Cells from a place on. -/
def CellsAt (g : Nat → Option Value) (o : Nat) (cs : List Value) : Prop := ∀ j c, cs[j]? = some c → g (o + j) = some c
section
variable (tb : Tab)
/-- Is a value one of a type's kind: of many cells, or of one? -/
def Kind (t : TypeId) (v : Value) : Prop := (isAggA tb t = some true ∧ ∃ xs, v = .agg xs) ∨ (isAggA tb t = some false ∧ v.oneCell' = true)
mutual
/-- A datum tells a value of a type; slices' elements lie in cells that never turn. -/
def RelP (fz : Fz) : TypeId → PV → Value → Prop
  | t, .int n, v => ∃ k, und tb t = some (.int k) ∧ v = .int k n
  | t, .bool b, v => und tb t = some .bool ∧ v = .bool b
  | t, .str s, v => und tb t = some .string ∧ ∃ ba : ByteArray, v = .string ba ∧ bytesN ba = s
  | t, .node ps, v =>
    (∃ fs xs, und tb t = some (.struct fs) ∧ v = .agg xs ∧ szA tb t = some xs.size ∧ RelF fz ps fs.toList xs.toList) ∨
    (∃ n e xs sz, und tb t = some (.array n e) ∧ szA tb e = some sz ∧ v = .agg xs ∧ szA tb t = some xs.size ∧ ps.length = n ∧ RelN fz e sz ps 0 xs.toList) ∨
    (∃ e A c, und tb t = some (.slice e) ∧ v = .slice A ps.length c ∧ ps.length ≤ c ∧ (ps = [] ∨ ∃ b o sz, A = some ⟨b, o, none⟩ ∧ szA tb e = some sz ∧ RelE fz e sz b ps o))
def RelF (fz : Fz) : List PV → List Field → List Value → Prop
  | [], fs, _ => fs = []
  | p :: ps, fs, xs => ∃ f fs', fs = f :: fs' ∧ (∃ u sz, RelP fz f.type p u ∧ Kind tb f.type u ∧ szA tb f.type = some sz ∧ u.cells.toList = (xs.drop f.offset).take sz ∧ u.cells.size = sz) ∧ RelF fz ps fs' xs
def RelN (fz : Fz) (e : TypeId) (sz : Nat) : List PV → Nat → List Value → Prop
  | [], _, _ => True
  | p :: ps, o, xs => (∃ u, RelP fz e p u ∧ Kind tb e u ∧ u.cells.toList = (xs.drop o).take sz ∧ u.cells.size = sz) ∧ RelN fz e sz ps (o + sz) xs
def RelE (fz : Fz) (e : TypeId) (sz : Nat) (b : Nat) : List PV → Nat → Prop
  | [], _ => True
  | p :: ps, o => (∃ u, RelP fz e p u ∧ Kind tb e u ∧ u.cells.size = sz ∧ CellsAt (fz b) o u.cells.toList) ∧ RelE fz e sz b ps (o + sz)
end
mutual
theorem RelP.mono {fz fz' : Fz} (hz : ∀ b o v, fz b o = some v → fz' b o = some v) : ∀ (t : TypeId) (p : PV) (v : Value), RelP tb fz t p v → RelP tb fz' t p v
  | _, .int _, _, h => h
  | _, .bool _, _, h => h
  | _, .str _, _, h => h
  | t, .node ps, v, h => by
    rcases h with ⟨fs, xs, h1, h2, h3, h4⟩ | ⟨n, e, xs, sz, h1, h2, h3, h4, h5, h6⟩ | ⟨e, A, c, h1, h2, h3, h4⟩
    · exact .inl ⟨fs, xs, h1, h2, h3, RelF.mono hz ps _ _ h4⟩
    · exact .inr (.inl ⟨n, e, xs, sz, h1, h2, h3, h4, h5, RelN.mono hz e sz ps _ _ h6⟩)
    · refine .inr (.inr ⟨e, A, c, h1, h2, h3, ?_⟩)
      rcases h4 with h4 | ⟨b, o, sz, h5, h6, h7⟩
      · exact .inl h4
      · exact .inr ⟨b, o, sz, h5, h6, RelE.mono hz e sz b ps o h7⟩
theorem RelF.mono {fz fz' : Fz} (hz : ∀ b o v, fz b o = some v → fz' b o = some v) : ∀ (ps : List PV) (fs : List Field) (xs : List Value), RelF tb fz ps fs xs → RelF tb fz' ps fs xs
  | [], _, _, h => h
  | p :: ps, _, xs, ⟨f, fs', e, ⟨u, sz, h1, h2⟩, h3⟩ => ⟨f, fs', e, ⟨u, sz, RelP.mono hz _ p u h1, h2⟩, RelF.mono hz ps fs' xs h3⟩
theorem RelN.mono {fz fz' : Fz} (hz : ∀ b o v, fz b o = some v → fz' b o = some v) (e : TypeId) (sz : Nat) : ∀ (ps : List PV) (o : Nat) (xs : List Value), RelN tb fz e sz ps o xs → RelN tb fz' e sz ps o xs
  | [], _, _, h => h
  | p :: ps, o, xs, ⟨⟨u, h1, h2⟩, h3⟩ => ⟨⟨u, RelP.mono hz e p u h1, h2⟩, RelN.mono hz e sz ps (o + sz) xs h3⟩
theorem RelE.mono {fz fz' : Fz} (hz : ∀ b o v, fz b o = some v → fz' b o = some v) (e : TypeId) (sz b : Nat) : ∀ (ps : List PV) (o : Nat), RelE tb fz e sz b ps o → RelE tb fz' e sz b ps o
  | [], _, h => h
  | p :: ps, o, ⟨⟨u, h1, h2, h3, h4⟩, h5⟩ => ⟨⟨u, RelP.mono hz e p u h1, h2, h3, fun j c h => hz _ _ _ (h4 j c h)⟩, RelE.mono hz e sz b ps (o + sz) h5⟩
end
mutual
/-- A plain value tells a value. -/
def Rel (μ : Mu) : AV → Value → Prop
  | .bool b, v => v = .bool b
  | .int k n, v => v = .int k n
  | .str s, v => ∃ ba : ByteArray, v = .string ba ∧ bytesN ba = s
  | .ptr none, v => v = .pointer none
  | .ptr (some q), v => ∃ p, μ.pl q.1 = some p ∧ v = .pointer (some ⟨p.b, p.o + q.2, none⟩)
  | .glob g o, v => v = .pointer (some ⟨g, o, none⟩)
  | .nils, v => v = .slice none 0 0
  | .pv t p, v => RelP tb μ.fz t p v
  | .fp t p, v => ∃ b o u, v = .pointer (some ⟨b, o, none⟩) ∧ RelP tb μ.fz t p u ∧ Kind tb t u ∧ szA tb t = some u.cells.size ∧ CellsAt (μ.fz b) o u.cells.toList
  | .vs x ver t es, v => RelP tb μ.fz t (.node es) v ∧ μ.sl x ver = some v ∧ (∃ e, und tb t = some (.slice e))
  | .ar x t, v => ∃ p n ad e sz, μ.pl x = some p ∧ elemA tb t = some (e, sz) ∧ v = .slice (some ad) n n ∧ p.r = n * sz ∧ (n = 0 ∨ ad = ⟨p.b, p.o, none⟩)
  | .ap x t i, v => ∃ p sz, μ.pl x = some p ∧ szA tb t = some sz ∧ 0 ≤ i ∧ v = .pointer (some ⟨p.b, p.o + i.toNat * sz, none⟩)
  | .map none, v => v = .map none
  | .map (some x), v => False
  | .func fn f c, v => ∃ f' c', v = .func fn f' c' ∧ RelL μ f f'.toList ∧ RelL μ c c'.toList
  | .nilFunc, v => v = .nilFunc
  | .iface t a, v => ∃ v', v = .iface t v' ∧ Rel μ a v'
  | .nilIface, v => v = .nilIface
  | .agg cs, v => ∃ xs, v = .agg xs ∧ RelL μ cs xs.toList
  | .tuple cs, v => ∃ xs, v = .tuple xs ∧ RelL μ cs xs.toList
  | .dead, v => True
def RelL (μ : Mu) : List AV → List Value → Prop
  | [], l => l = []
  | a :: as, l => ∃ v vs, l = v :: vs ∧ Rel μ a v ∧ RelL μ as vs
end
variable {tb}
mutual
theorem Rel.mono {μ μ' : Mu} (hμ : Ext μ μ') : ∀ (a : AV) (v : Value), Rel tb μ a v → Rel tb μ' a v
  | .bool _, _, h => h
  | .int _ _, _, h => h
  | .str _, _, h => h
  | .ptr none, _, h => h
  | .ptr (some q), _, ⟨p, hp, e⟩ => ⟨p, hμ.pl _ _ hp, e⟩
  | .glob _ _, _, h => h
  | .nils, _, h => h
  | .pv t p, v, h => RelP.mono tb hμ.fz t p v h
  | .fp t p, v, ⟨b, o, u, e, h1, h2, h3, h4⟩ => ⟨b, o, u, e, RelP.mono tb hμ.fz t p u h1, h2, h3, fun j c h => hμ.fz _ _ _ (h4 j c h)⟩
  | .vs x ver t es, v, ⟨h1, h2, h3⟩ => ⟨RelP.mono tb hμ.fz t _ v h1, hμ.sl _ _ _ h2, h3⟩
  | .ar x t, v, ⟨p, n, ad, e, sz, h1, h2⟩ => ⟨p, n, ad, e, sz, hμ.pl _ _ h1, h2⟩
  | .ap x t i, v, ⟨p, sz, h1, h2⟩ => ⟨p, sz, hμ.pl _ _ h1, h2⟩
  | .map none, _, h => h
  | .map (some x), _, h => h
  | .func _ f c, _, ⟨f', c', e, h1, h2⟩ => ⟨f', c', e, RelL.mono hμ f _ h1, RelL.mono hμ c _ h2⟩
  | .nilFunc, _, h => h
  | .iface _ a, _, ⟨v', e, h⟩ => ⟨v', e, Rel.mono hμ a v' h⟩
  | .nilIface, _, h => h
  | .agg cs, _, ⟨xs, e, h⟩ => ⟨xs, e, RelL.mono hμ cs _ h⟩
  | .tuple cs, _, ⟨xs, e, h⟩ => ⟨xs, e, RelL.mono hμ cs _ h⟩
  | .dead, _, h => h
theorem RelL.mono {μ μ' : Mu} (hμ : Ext μ μ') : ∀ (l : List AV) (vs : List Value), RelL tb μ l vs → RelL tb μ' l vs
  | [], _, h => h
  | a :: l, _, ⟨v, vs, e, h1, h2⟩ => ⟨v, vs, e, Rel.mono hμ a v h1, RelL.mono hμ l vs h2⟩
end
theorem RelL.nil {μ : Mu} : RelL tb μ [] [] := rfl
theorem RelL.cons {μ : Mu} {a : AV} {v : Value} {l : List AV} {vs : List Value} (h : Rel tb μ a v) (t : RelL tb μ l vs) : RelL tb μ (a :: l) (v :: vs) := ⟨v, vs, rfl, h, t⟩
theorem RelL.len {μ : Mu} : ∀ {l : List AV} {vs : List Value}, RelL tb μ l vs → vs.length = l.length
  | [], _, h => by rw [show _ = [] from h]; rfl
  | a :: l, _, ⟨v, vs, e, _, h⟩ => by rw [e]; simp [RelL.len h]
theorem RelL.get {μ : Mu} : ∀ {l : List AV} {vs : List Value}, RelL tb μ l vs → ∀ (i : Nat) (a : AV), l[i]? = some a → ∃ v, vs[i]? = some v ∧ Rel tb μ a v
  | [], _, _, i, a, h => by simp at h
  | x :: l, _, ⟨v, vs, e, h1, h2⟩, i, a, h => by
    subst e
    cases i with
    | zero => simp at h; subst h; exact ⟨v, rfl, h1⟩
    | succ i => simp only [List.getElem?_cons_succ] at h ⊢; exact RelL.get h2 i a h
theorem RelL.of {μ : Mu} : ∀ {l : List AV} {vs : List Value}, vs.length = l.length → (∀ (i : Nat) (a : AV), l[i]? = some a → ∃ v, vs[i]? = some v ∧ Rel tb μ a v) → RelL tb μ l vs
  | [], vs, hl, _ => by cases vs with | nil => rfl | cons => simp at hl
  | x :: l, [], hl, _ => by simp at hl
  | x :: l, v :: vs, hl, h => by
    refine ⟨v, vs, rfl, ?_, RelL.of (by simpa using hl) fun i a hi => by simpa using h (i + 1) a (by simpa using hi)⟩
    obtain ⟨v', e, hr⟩ := h 0 x rfl
    cases e; exact hr
theorem RelL.append {μ : Mu} : ∀ {l m : List AV} {vs ws : List Value}, RelL tb μ l vs → RelL tb μ m ws → RelL tb μ (l ++ m) (vs ++ ws)
  | [], m, _, ws, h, hm => by rw [show _ = [] from h]; exact hm
  | a :: l, m, _, ws, ⟨v, vs, e, h1, h2⟩, hm => by subst e; exact .cons h1 (RelL.append h2 hm)
theorem seg_spec : ∀ (l : List AV) (i n : Nat) (s : List AV), seg l i n = some s → s = (l.drop i).take n ∧ s.length = n ∧ i + n ≤ l.length
  | l, 0, 0, s, h => by simp only [seg] at h; cases h; simp
  | [], 0, n + 1, s, h => by simp [seg] at h
  | x :: xs, 0, n + 1, s, h => by
    simp only [seg] at h
    split at h
    · rename_i r hr
      cases h
      obtain ⟨e, h1, h2⟩ := seg_spec xs 0 n r hr
      refine ⟨by simp [e], by simp [h1], by simp; omega⟩
    · cases h
  | [], i + 1, n, s, h => by simp [seg] at h
  | x :: xs, i + 1, n, s, h => by
    simp only [seg] at h
    obtain ⟨e, h1, h2⟩ := seg_spec xs i n s h
    exact ⟨by simp [e], h1, by simp; omega⟩
theorem seg_get {l : List AV} {i n : Nat} {s : List AV} (h : seg l i n = some s) {j : Nat} (hj : j < n) : s[j]? = l[i + j]? := by
  obtain ⟨e, h1, h2⟩ := seg_spec l i n s h
  rw [e, List.getElem?_take, if_pos hj, List.getElem?_drop]
theorem RelL.drop {μ : Mu} {l : List AV} {vs : List Value} (h : RelL tb μ l vs) (i : Nat) : RelL tb μ (l.drop i) (vs.drop i) :=
  RelL.of (by simp [h.len]) fun j a hj => by rw [List.getElem?_drop] at hj ⊢; exact h.get _ _ hj
theorem RelL.take {μ : Mu} {l : List AV} {vs : List Value} (h : RelL tb μ l vs) (i : Nat) : RelL tb μ (l.take i) (vs.take i) :=
  RelL.of (by simp [h.len]) fun j a hj => by
    rw [List.getElem?_take] at hj ⊢
    split at hj
    · rename_i hh; rw [if_pos hh]; exact h.get _ _ hj
    · cases hj
theorem lay_spec : ∀ (l : List AV) (i : Nat) (ys r : List AV), lay l i ys = some r → i ≤ l.length ∧ r.length = max l.length (i + ys.length) ∧ ∀ j, r[j]? = if i ≤ j ∧ j < i + ys.length then ys[j - i]? else l[j]?
  | l, 0, [], r, h => by
    simp only [lay] at h; cases h
    refine ⟨Nat.zero_le _, by simp, fun j => by rw [if_neg (by simp)]⟩
  | [], 0, y :: ys, r, h => by
    simp only [lay] at h; cases h
    refine ⟨Nat.zero_le _, by simp, fun j => ?_⟩
    by_cases hj : j < (y :: ys).length
    · rw [if_pos ⟨Nat.zero_le _, by omega⟩]; rfl
    · rw [if_neg (by omega), List.getElem?_eq_none (by omega)]; rfl
  | x :: xs, 0, y :: ys, r, h => by
    simp only [lay] at h
    split at h
    · rename_i r' hr
      cases h
      obtain ⟨_, h1, h2⟩ := lay_spec xs 0 ys r' hr
      refine ⟨Nat.zero_le _, by simp only [List.length_cons, h1]; omega, fun j => ?_⟩
      cases j with
      | zero => simp
      | succ j =>
        rw [List.getElem?_cons_succ, h2]
        by_cases hj : j < ys.length
        · rw [if_pos ⟨Nat.zero_le _, by omega⟩, if_pos ⟨Nat.zero_le _, by simp; omega⟩]; simp
        · rw [if_neg (by omega), if_neg (by simp; omega)]; simp
    · cases h
  | [], i + 1, ys, r, h => by simp [lay] at h
  | x :: xs, i + 1, ys, r, h => by
    simp only [lay] at h
    split at h
    · rename_i r' hr
      cases h
      obtain ⟨h0, h1, h2⟩ := lay_spec xs i ys r' hr
      refine ⟨by simp; omega, by simp only [List.length_cons, h1]; omega, fun j => ?_⟩
      cases j with
      | zero => rw [if_neg (by omega)]; simp
      | succ j =>
        rw [List.getElem?_cons_succ, h2]
        by_cases hj : i ≤ j ∧ j < i + ys.length
        · rw [if_pos hj, if_pos (by omega), show j + 1 - (i + 1) = j - i by omega]
        · rw [if_neg hj, if_neg (by omega)]; simp
    · cases h
theorem cells_one {v : Value} (h : v.oneCell' = true) : v.cells.toList = [v] := by cases v <;> first | rfl | (simp [Value.oneCell'] at h)
mutual
theorem absV_rel {μ : Mu} : ∀ (v : Value) (a : AV), absV v = some a → Rel tb μ a v
  | .bool b, a, h => by simp only [absV] at h; cases h; rfl
  | .int k n, a, h => by simp only [absV] at h; cases h; rfl
  | .string s, a, h => by simp only [absV] at h; cases h; exact ⟨s, rfl, rfl⟩
  | .pointer none, a, h => by simp only [absV] at h; cases h; rfl
  | .pointer (some _), a, h => by simp [absV] at h
  | .slice none 0 0, a, h => by simp only [absV] at h; cases h; rfl
  | .slice none (_ + 1) _, a, h => by simp [absV] at h
  | .slice none 0 (_ + 1), a, h => by simp [absV] at h
  | .slice (some _) _ _, a, h => by simp [absV] at h
  | .map none, a, h => by simp only [absV] at h; cases h; rfl
  | .map (some _), a, h => by simp [absV] at h
  | .func fn ⟨f⟩ ⟨c⟩, a, h => by
    cases fn <;> cases f <;> cases c <;> first | (simp only [absV] at h; cases h; exact ⟨_, _, rfl, rfl, rfl⟩) | (simp [absV] at h)
  | .nilFunc, a, h => by simp only [absV] at h; cases h; rfl
  | .nilIface, a, h => by simp only [absV] at h; cases h; rfl
  | .iface t v, a, h => by
    simp only [absV] at h
    split at h
    · rename_i b hb; cases h; exact ⟨v, rfl, absV_rel v b hb⟩
    · cases h
  | .agg ⟨cs⟩, a, h => by
    simp only [absV] at h
    split at h
    · rename_i b hb; cases h; exact ⟨⟨cs⟩, rfl, absVs_rel cs b hb⟩
    · cases h
  | .tuple ⟨cs⟩, a, h => by
    simp only [absV] at h
    split at h
    · rename_i b hb; cases h; exact ⟨⟨cs⟩, rfl, absVs_rel cs b hb⟩
    · cases h
  | .float _ _, a, h => by simp [absV] at h
  | .complex _ _ _, a, h => by simp [absV] at h
  | .chan _, a, h => by simp [absV] at h
theorem absVs_rel {μ : Mu} : ∀ (vs : List Value) (l : List AV), absVs vs = some l → RelL tb μ l vs
  | [], l, h => by simp only [absVs] at h; cases h; rfl
  | v :: vs, l, h => by
    simp only [absVs] at h
    split at h
    · rename_i a ha
      split at h
      · rename_i m hm; cases h; exact .cons (absV_rel v a ha) (absVs_rel vs m hm)
      · cases h
    · cases h
end
end
end Px
end

section
namespace Px
open Go Go.RowKit
set_option linter.unusedVariables false
set_option linter.unusedSimpArgs false
section
variable {tb : Tab} {fz : Fz} {μ : Mu}
theorem agg_int {t : TypeId} {k : IntKind} (h : und tb t = some (.int k)) : isAggA tb t = some false := by unfold isAggA; rw [h]
theorem relP_kind : ∀ {t : TypeId} {p : PV} {v : Value}, RelP tb fz t p v → Kind tb t v
  | t, .int n, v, ⟨k, h, e⟩ => .inr ⟨by unfold isAggA; rw [h], by rw [e]; rfl⟩
  | t, .bool b, v, ⟨h, e⟩ => .inr ⟨by unfold isAggA; rw [h], by rw [e]; rfl⟩
  | t, .str s, v, ⟨h, ba, e, _⟩ => .inr ⟨by unfold isAggA; rw [h], by rw [e]; rfl⟩
  | t, .node ps, v, h => by
    rcases h with ⟨fs, xs, h1, h2, _⟩ | ⟨n, e, xs, sz, h1, _, h2, _⟩ | ⟨e, A, c, h1, h2, _⟩
    · exact .inl ⟨by unfold isAggA; rw [h1], xs, h2⟩
    · exact .inl ⟨by unfold isAggA; rw [h1], xs, h2⟩
    · exact .inr ⟨by unfold isAggA; rw [h1], by rw [h2]; rfl⟩
theorem relP_int {t : TypeId} {k : IntKind} {p : PV} {v : Value} (hu : und tb t = some (.int k)) (h : RelP tb fz t p v) : p = .int p.i ∧ v = .int k p.i := by
  cases p with
  | int n => obtain ⟨k', h1, h2⟩ := h; rw [hu] at h1; cases h1; exact ⟨rfl, h2⟩
  | bool b => obtain ⟨h1, _⟩ := h; rw [hu] at h1; cases h1
  | str s => obtain ⟨h1, _⟩ := h; rw [hu] at h1; cases h1
  | node ps => rcases h with ⟨_, _, h1, _⟩ | ⟨_, _, _, _, h1, _⟩ | ⟨_, _, _, h1, _⟩ <;> (rw [hu] at h1; cases h1)
theorem relP_bool {t : TypeId} {p : PV} {v : Value} (hu : und tb t = some .bool) (h : RelP tb fz t p v) : p = .bool p.b ∧ v = .bool p.b := by
  cases p with
  | int n => obtain ⟨k', h1, h2⟩ := h; rw [hu] at h1; cases h1
  | bool b => exact ⟨rfl, h.2⟩
  | str s => obtain ⟨h1, _⟩ := h; rw [hu] at h1; cases h1
  | node ps => rcases h with ⟨_, _, h1, _⟩ | ⟨_, _, _, _, h1, _⟩ | ⟨_, _, _, h1, _⟩ <;> (rw [hu] at h1; cases h1)
theorem relP_str {t : TypeId} {p : PV} {v : Value} (hu : und tb t = some .string) (h : RelP tb fz t p v) : p = .str p.s ∧ ∃ ba : ByteArray, v = .string ba ∧ bytesN ba = p.s := by
  cases p with
  | int n => obtain ⟨k', h1, h2⟩ := h; rw [hu] at h1; cases h1
  | bool b => obtain ⟨h1, _⟩ := h; rw [hu] at h1; cases h1
  | str s => exact ⟨rfl, h.2⟩
  | node ps => rcases h with ⟨_, _, h1, _⟩ | ⟨_, _, _, _, h1, _⟩ | ⟨_, _, _, h1, _⟩ <;> (rw [hu] at h1; cases h1)
theorem relP_struct {t : TypeId} {fs : Array Field} {p : PV} {v : Value} (hu : und tb t = some (.struct fs)) (h : RelP tb fz t p v) : p = .node p.l ∧ ∃ xs, v = .agg xs ∧ szA tb t = some xs.size ∧ RelF tb fz p.l fs.toList xs.toList := by
  cases p with
  | int n => obtain ⟨k', h1, h2⟩ := h; rw [hu] at h1; cases h1
  | bool b => obtain ⟨h1, _⟩ := h; rw [hu] at h1; cases h1
  | str s => obtain ⟨h1, _⟩ := h; rw [hu] at h1; cases h1
  | node ps =>
    rcases h with ⟨fs', xs, h1, h2⟩ | ⟨_, _, _, _, h1, _⟩ | ⟨_, _, _, h1, _⟩
    · rw [hu] at h1; cases h1; exact ⟨rfl, xs, h2⟩
    · rw [hu] at h1; cases h1
    · rw [hu] at h1; cases h1
theorem relP_array {t : TypeId} {n : Nat} {e : TypeId} {p : PV} {v : Value} (hu : und tb t = some (.array n e)) (h : RelP tb fz t p v) : p = .node p.l ∧ ∃ xs sz, szA tb e = some sz ∧ v = .agg xs ∧ szA tb t = some xs.size ∧ p.l.length = n ∧ RelN tb fz e sz p.l 0 xs.toList := by
  cases p with
  | int n => obtain ⟨k', h1, h2⟩ := h; rw [hu] at h1; cases h1
  | bool b => obtain ⟨h1, _⟩ := h; rw [hu] at h1; cases h1
  | str s => obtain ⟨h1, _⟩ := h; rw [hu] at h1; cases h1
  | node ps =>
    rcases h with ⟨fs', xs, h1, h2⟩ | ⟨_, _, xs, sz, h1, h2⟩ | ⟨_, _, _, h1, _⟩
    · rw [hu] at h1; cases h1
    · rw [hu] at h1; cases h1; exact ⟨rfl, xs, sz, h2⟩
    · rw [hu] at h1; cases h1
theorem relP_slice {t : TypeId} {e : TypeId} {p : PV} {v : Value} (hu : und tb t = some (.slice e)) (h : RelP tb fz t p v) : p = .node p.l ∧ ∃ A c, v = .slice A p.l.length c ∧ p.l.length ≤ c ∧ (p.l = [] ∨ ∃ b o sz, A = some ⟨b, o, none⟩ ∧ szA tb e = some sz ∧ RelE tb fz e sz b p.l o) := by
  cases p with
  | int n => obtain ⟨k', h1, h2⟩ := h; rw [hu] at h1; cases h1
  | bool b => obtain ⟨h1, _⟩ := h; rw [hu] at h1; cases h1
  | str s => obtain ⟨h1, _⟩ := h; rw [hu] at h1; cases h1
  | node ps =>
    rcases h with ⟨fs', xs, h1, h2⟩ | ⟨_, _, xs, sz, h1, h2⟩ | ⟨e', A, c, h1, h2⟩
    · rw [hu] at h1; cases h1
    · rw [hu] at h1; cases h1
    · rw [hu] at h1; cases h1; exact ⟨rfl, A, c, h2⟩
theorem relF_get : ∀ {ps : List PV} {fs : List Field} {xs : List Value}, RelF tb fz ps fs xs → ∀ (i : Nat) (f : Field), fs[i]? = some f → ∃ u sz, RelP tb fz f.type (ps.getD i (.node [])) u ∧ Kind tb f.type u ∧ szA tb f.type = some sz ∧ u.cells.toList = (xs.drop f.offset).take sz ∧ u.cells.size = sz
  | [], fs, xs, h, i, f, hf => by rw [show fs = [] from h] at hf; simp at hf
  | p :: ps, fs, xs, ⟨f0, fs', e, h1, h2⟩, i, f, hf => by
    subst e
    cases i with
    | zero => simp at hf; subst hf; obtain ⟨u, sz, h⟩ := h1; exact ⟨u, sz, h⟩
    | succ i => simp only [List.getElem?_cons_succ] at hf; simpa using relF_get h2 i f hf
theorem relN_get {e : TypeId} {sz : Nat} : ∀ {ps : List PV} {o : Nat} {xs : List Value}, RelN tb fz e sz ps o xs → ∀ i, i < ps.length → ∃ u, RelP tb fz e (ps.getD i (.node [])) u ∧ Kind tb e u ∧ u.cells.toList = (xs.drop (o + i * sz)).take sz ∧ u.cells.size = sz
  | [], o, xs, h, i, hi => by simp at hi
  | p :: ps, o, xs, ⟨h1, h2⟩, i, hi => by
    cases i with
    | zero => simpa using h1
    | succ i =>
      have := relN_get h2 i (by simpa using hi)
      rw [show o + sz + i * sz = o + (i + 1) * sz by rw [Nat.succ_mul]; omega] at this
      simpa using this
theorem relE_get {e : TypeId} {sz b : Nat} : ∀ {ps : List PV} {o : Nat}, RelE tb fz e sz b ps o → ∀ i, i < ps.length → ∃ u, RelP tb fz e (ps.getD i (.node [])) u ∧ Kind tb e u ∧ u.cells.size = sz ∧ CellsAt (fz b) (o + i * sz) u.cells.toList
  | [], o, h, i, hi => by simp at hi
  | p :: ps, o, ⟨h1, h2⟩, i, hi => by
    cases i with
    | zero => simpa using h1
    | succ i =>
      have := relE_get h2 i (by simpa using hi)
      rw [show o + sz + i * sz = o + (i + 1) * sz by rw [Nat.succ_mul]; omega] at this
      simpa using this
theorem relE_append {e : TypeId} {sz b : Nat} : ∀ {ps qs : List PV} {o : Nat}, RelE tb fz e sz b (ps ++ qs) o ↔ RelE tb fz e sz b ps o ∧ RelE tb fz e sz b qs (o + ps.length * sz)
  | [], qs, o => by simp [RelE]
  | p :: ps, qs, o => by
    have e1 : o + sz + ps.length * sz = o + (ps.length + 1) * sz := by rw [Nat.succ_mul]; omega
    simp only [List.cons_append, RelE, relE_append, List.length_cons, e1, and_assoc]
theorem relE_drop {e : TypeId} {sz b : Nat} {ps : List PV} {o : Nat} (h : RelE tb fz e sz b ps o) (i : Nat) (hi : i ≤ ps.length) : RelE tb fz e sz b (ps.drop i) (o + i * sz) := by
  rw [← List.take_append_drop i ps] at h
  have := (relE_append.1 h).2
  rwa [List.length_take, Nat.min_eq_left hi] at this
theorem relE_take {e : TypeId} {sz b : Nat} {ps : List PV} {o : Nat} (h : RelE tb fz e sz b ps o) (i : Nat) : RelE tb fz e sz b (ps.take i) o := by
  rw [← List.take_append_drop i ps] at h
  exact (relE_append.1 h).1
theorem expandV_ok {t : TypeId} {p : PV} {a : AV} {v : Value} (h : expandV tb t p = some a) (hr : RelP tb μ.fz t p v) : Rel tb μ a v := by
  unfold expandV at h
  cases e : und tb t with
  | none => rw [e] at h; cases h
  | some d =>
    rw [e] at h
    cases d <;> first | (cases h; done) | skip
    · simp only [Option.some.injEq] at h; subst h; exact (relP_bool e hr).2
    · simp only [Option.some.injEq] at h; subst h; exact (relP_int e hr).2
    · simp only [Option.some.injEq] at h; subst h; obtain ⟨_, ba, h1, h2⟩ := relP_str e hr; exact ⟨ba, h1, h2⟩
    all_goals (simp only [Option.some.injEq] at h; subst h; exact hr)
theorem cells_of {v : Value} {xs : Array Value} (h : v = .agg xs) : v.cells.toList = xs.toList := by rw [h]; rfl
theorem cellsF_ok {ex : TypeId → PV → Option (List AV)} (hex : ∀ t p cs v, ex t p = some cs → RelP tb μ.fz t p v → RelL tb μ cs v.cells.toList) : ∀ {fs : List Field} {ps : List PV} {i off : Nat} {p : PV} {cs : List AV} {xs : List Value},
    cellsF ex fs i off p = some cs → RelF tb μ.fz (p.l.drop i) fs xs → off ≤ xs.length → RelL tb μ cs ((xs.drop off).take cs.length) ∧ off + cs.length ≤ xs.length
  | [], ps, i, off, p, cs, xs, h, hr, ho => by simp only [cellsF, Option.some.injEq] at h; subst h; exact ⟨by simp [RelL.nil], by simpa using ho⟩
  | f :: fs, ps, i, off, p, cs, xs, h, hr, ho => by
    simp only [cellsF] at h
    cases e : Nat.beq f.offset off with
    | false => rw [e] at h; cases h
    | true =>
      rw [e] at h
      simp only [cond_true] at h
      have eo : f.offset = off := by rwa [Nat.beq_eq] at e
      cases e1 : ex f.type (p.at i) with
      | none => rw [e1] at h; cases h
      | some c1 =>
        rw [e1] at h
        simp only at h
        cases e2 : cellsF ex fs (i + 1) (off + c1.length) p with
        | none => rw [e2] at h; cases h
        | some c2 =>
          rw [e2] at h
          simp only [Option.some.injEq] at h
          subst h
          cases hd : p.l.drop i with
          | nil => rw [hd] at hr; exact absurd (show f :: fs = [] from hr) (by simp)
          | cons q qs =>
            rw [hd] at hr
            obtain ⟨f0, fs', ef, ⟨u, sz, h1, h2, h3, h4, h5⟩, h6⟩ := hr
            cases ef
            have hq : p.at i = q := by
              unfold PV.at
              rw [List.getD_eq_getElem?_getD, show p.l[i]? = (p.l.drop i)[0]? by rw [List.getElem?_drop]; rfl, hd]; rfl
            rw [hq] at e1
            have hc := hex _ _ _ _ e1 h1
            have hl : c1.length = sz := by rw [← hc.len, Array.length_toList, h5]
            have hle : off + sz ≤ xs.length := by
              have := congrArg List.length h4
              rw [Array.length_toList, h5, List.length_take, List.length_drop, eo] at this
              by_cases hz : sz = 0
              · omega
              · omega
            have hd2 : p.l.drop (i + 1) = qs := by rw [← List.drop_drop, hd]; rfl
            obtain ⟨k1, k2⟩ := cellsF_ok hex (ps := qs) e2 (by rw [hd2]; exact h6) (by omega)
            refine ⟨?_, by rw [List.length_append]; omega⟩
            rw [h4, eo] at hc
            have := hc.append k1
            rw [List.length_append, List.take_add, hl, List.drop_drop]
            rw [hl] at this
            exact this
theorem cellsN_ok {e : TypeId} {sz : Nat} {ex : PV → Option (List AV)} (hex : ∀ p cs v, ex p = some cs → RelP tb μ.fz e p v → RelL tb μ cs v.cells.toList) : ∀ {n i off : Nat} {p : PV} {cs : List AV} {xs : List Value},
    cellsN ex p n i = some cs → RelN tb μ.fz e sz (p.l.drop i) off xs → i + n = p.l.length → off ≤ xs.length → RelL tb μ cs ((xs.drop off).take cs.length) ∧ off + cs.length ≤ xs.length
  | 0, i, off, p, cs, xs, h, hr, hn, ho => by simp only [cellsN, Option.some.injEq] at h; subst h; exact ⟨by simp [RelL.nil], by simpa using ho⟩
  | n + 1, i, off, p, cs, xs, h, hr, hn, ho => by
    simp only [cellsN] at h
    cases e1 : ex (p.at i) with
    | none => rw [e1] at h; cases h
    | some c1 =>
      rw [e1] at h
      simp only at h
      cases e2 : cellsN ex p n (i + 1) with
      | none => rw [e2] at h; cases h
      | some c2 =>
        rw [e2] at h
        simp only [Option.some.injEq] at h
        subst h
        cases hd : p.l.drop i with
        | nil => have := congrArg List.length hd; rw [List.length_drop] at this; simp at this; omega
        | cons q qs =>
          rw [hd] at hr
          obtain ⟨⟨u, h1, h2, h4, h5⟩, h6⟩ := hr
          have hq : p.at i = q := by
            unfold PV.at
            rw [List.getD_eq_getElem?_getD, show p.l[i]? = (p.l.drop i)[0]? by rw [List.getElem?_drop]; rfl, hd]; rfl
          rw [hq] at e1
          have hc := hex _ _ _ e1 h1
          have hl : c1.length = sz := by rw [← hc.len, Array.length_toList, h5]
          have hle : off + sz ≤ xs.length := by
            have := congrArg List.length h4
            rw [Array.length_toList, h5, List.length_take, List.length_drop] at this
            omega
          have hd2 : p.l.drop (i + 1) = qs := by rw [← List.drop_drop, hd]; rfl
          obtain ⟨k1, k2⟩ := cellsN_ok hex e2 (by rw [hd2]; exact h6) (by omega) (by omega)
          refine ⟨?_, by rw [List.length_append]; omega⟩
          rw [h4] at hc
          have := hc.append k1
          rw [List.length_append, List.take_add, hl, List.drop_drop]
          exact this
theorem expandC_ok : ∀ {d : Nat} {t : TypeId} {p : PV} {cs : List AV} {v : Value}, expandC tb d t p = some cs → RelP tb μ.fz t p v → RelL tb μ cs v.cells.toList
  | 0, t, p, cs, v, h, hr => by simp only [expandC] at h; cases h
  | d + 1, t, p, cs, v, h, hr => by
    simp only [expandC] at h
    cases e : und tb t with
    | none => rw [e] at h; cases h
    | some de =>
      rw [e] at h
      cases de <;> first | (cases h; done) | skip
      · simp only [Option.some.injEq] at h; subst h
        rw [(relP_bool e hr).2]; exact .cons rfl .nil
      · simp only [Option.some.injEq] at h; subst h
        rw [(relP_int e hr).2]; exact .cons rfl .nil
      · simp only [Option.some.injEq] at h; subst h
        obtain ⟨_, ba, h1, h2⟩ := relP_str e hr; rw [h1]; exact .cons ⟨ba, rfl, h2⟩ .nil
      · rename_i el
        simp only [Option.some.injEq] at h; subst h
        obtain ⟨_, A, c, h1, _⟩ := relP_slice e hr
        have : v.cells.toList = [v] := by rw [h1]; rfl
        rw [this]
        exact .cons hr .nil
      · rename_i n el
        simp only at h
        obtain ⟨_, xs, sz, h1, h2, h3, h4, h5⟩ := relP_array e hr
        cases e1 : cellsN (expandC tb d el) p n 0 with
        | none => rw [e1] at h; cases h
        | some c1 =>
          rw [e1, h3] at h
          simp only at h
          cases e2 : Nat.beq c1.length xs.size with
          | false => rw [e2] at h; cases h
          | true =>
            rw [e2] at h; simp only [cond_true, Option.some.injEq] at h; subst h
            have el2 : c1.length = xs.size := by rwa [Nat.beq_eq] at e2
            obtain ⟨k1, _⟩ := cellsN_ok (tb := tb) (μ := μ) (fun p cs v => expandC_ok) e1 (by rw [List.drop_zero]; exact h5) (by omega) (Nat.zero_le _)
            rw [h2]
            rw [List.drop_zero, el2, ← Array.length_toList, List.take_length] at k1
            exact k1
      · rename_i fs
        simp only at h
        obtain ⟨_, xs, h2, h3, h5⟩ := relP_struct e hr
        cases e1 : cellsF (expandC tb d) fs.toList 0 0 p with
        | none => rw [e1] at h; cases h
        | some c1 =>
          rw [e1, h3] at h
          simp only at h
          cases e2 : Nat.beq c1.length xs.size with
          | false => rw [e2] at h; cases h
          | true =>
            rw [e2] at h; simp only [cond_true, Option.some.injEq] at h; subst h
            have el2 : c1.length = xs.size := by rwa [Nat.beq_eq] at e2
            obtain ⟨k1, _⟩ := cellsF_ok (tb := tb) (μ := μ) (fun t p cs v => expandC_ok) (ps := p.l) e1 (by rw [List.drop_zero]; exact h5) (Nat.zero_le _)
            rw [h2]
            rw [List.drop_zero, el2, ← Array.length_toList, List.take_length] at k1
            exact k1
theorem cellsV_ok {a : AV} {cs : List AV} {v : Value} (h : cellsV tb a = some cs) (hr : Rel tb μ a v) : RelL tb μ cs v.cells.toList := by
  cases a with
  | agg l => simp only [cellsV, Option.some.injEq] at h; subst h; obtain ⟨xs, e, hl⟩ := hr; rw [e]; exact hl
  | pv t p => exact expandC_ok h hr
  | tuple l => simp only [cellsV] at h; cases h
  | dead => simp only [cellsV] at h; cases h
  | bool b => simp only [cellsV, Option.some.injEq] at h; subst h; have e : v = _ := hr; rw [e]; exact .cons rfl .nil
  | int k n => simp only [cellsV, Option.some.injEq] at h; subst h; have e : v = _ := hr; rw [e]; exact .cons rfl .nil
  | str s => simp only [cellsV, Option.some.injEq] at h; subst h; obtain ⟨ba, e, h2⟩ := hr; rw [e]; exact .cons ⟨ba, rfl, h2⟩ .nil
  | ptr q =>
    simp only [cellsV, Option.some.injEq] at h; subst h
    cases q with
    | none => have e : v = _ := hr; rw [e]; exact .cons rfl .nil
    | some q => obtain ⟨p, hp, e⟩ := hr; rw [e]; exact .cons ⟨p, hp, rfl⟩ .nil
  | glob g o => simp only [cellsV, Option.some.injEq] at h; subst h; have e : v = _ := hr; rw [e]; exact .cons rfl .nil
  | nils => simp only [cellsV, Option.some.injEq] at h; subst h; have e : v = _ := hr; rw [e]; exact .cons rfl .nil
  | fp t p => simp only [cellsV, Option.some.injEq] at h; subst h; obtain ⟨b, o, u, e, h2⟩ := hr; rw [e]; exact .cons ⟨b, o, u, rfl, h2⟩ .nil
  | vs x ver t es =>
    simp only [cellsV, Option.some.injEq] at h; subst h
    obtain ⟨h1, h2, el, h3⟩ := hr
    obtain ⟨_, A, c, e, _⟩ := relP_slice h3 h1
    have : v.cells.toList = [v] := by rw [e]; rfl
    rw [this]; exact .cons ⟨h1, h2, el, h3⟩ .nil
  | ar x t => simp only [cellsV, Option.some.injEq] at h; subst h; obtain ⟨p, n, ad, e, sz, h1, h2, h3, h4⟩ := hr; rw [h3]; exact .cons ⟨p, n, ad, e, sz, h1, h2, rfl, h4⟩ .nil
  | ap x t i => simp only [cellsV, Option.some.injEq] at h; subst h; obtain ⟨p, sz, h1, h2, h3, h4⟩ := hr; rw [h4]; exact .cons ⟨p, sz, h1, h2, h3, rfl⟩ .nil
  | map r =>
    simp only [cellsV, Option.some.injEq] at h; subst h
    cases r with
    | none => have e : v = _ := hr; rw [e]; exact .cons rfl .nil
    | some x => exact (show False from hr).elim
  | func fn f c => simp only [cellsV, Option.some.injEq] at h; subst h; obtain ⟨f', c', e, h2⟩ := hr; rw [e]; exact .cons ⟨f', c', rfl, h2⟩ .nil
  | nilFunc => simp only [cellsV, Option.some.injEq] at h; subst h; have e : v = _ := hr; rw [e]; exact .cons rfl .nil
  | iface t a => simp only [cellsV, Option.some.injEq] at h; subst h; obtain ⟨v', e, h2⟩ := hr; rw [e]; exact .cons ⟨v', rfl, h2⟩ .nil
  | nilIface => simp only [cellsV, Option.some.injEq] at h; subst h; have e : v = _ := hr; rw [e]; exact .cons rfl .nil
/-- A part of cells, as a value. -/
theorem partA_val {t : TypeId} {cs : List AV} {off : Nat} {a : AV} {xs : List Value} (h : partA tb t cs off = some a) (hr : RelL tb μ cs xs) (h1 : ∀ c ∈ xs, c.oneCell' = true) : ∃ v sz, Rel tb μ a v ∧ Kind tb t v ∧ szA tb t = some sz ∧ v.cells.toList = (xs.drop off).take sz ∧ v.cells.size = sz := by
  unfold partA at h
  cases e : isAggA tb t with
  | none => rw [e] at h; cases h
  | some ag =>
    rw [e] at h
    cases ag with
    | true =>
      simp only at h
      cases en : szA tb t with
      | none => rw [en] at h; cases h
      | some n =>
        rw [en] at h
        simp only at h
        cases es : seg cs off n with
        | none => rw [es] at h; cases h
        | some l =>
          rw [es] at h; simp only [Option.some.injEq] at h; subst h
          obtain ⟨el, l1, l2⟩ := seg_spec _ _ _ _ es
          have hrl : RelL tb μ l ((xs.drop off).take n) := by rw [el]; exact (hr.drop off).take n
          refine ⟨.agg ((xs.drop off).take n).toArray, n, ⟨_, rfl, by simpa using hrl⟩, .inl ⟨e, _, rfl⟩, rfl, rfl, ?_⟩
          show ((xs.drop off).take n).toArray.size = n
          rw [List.size_toArray, hrl.len, l1]
    | false =>
      simp only at h
      cases en : szA tb t with
      | none => rw [en] at h; cases h
      | some n =>
        rw [en] at h
        simp only at h
        cases eb : Nat.beq n 1 with
        | false => rw [eb] at h; cases h
        | true =>
          rw [eb] at h
          have hn1 : n = 1 := by rwa [Nat.beq_eq] at eb
          subst hn1
          simp only [cond_true] at h
          cases es : seg cs off 1 with
          | none => rw [es] at h; cases h
          | some l =>
            rw [es] at h
            obtain ⟨el, l1, l2⟩ := seg_spec _ _ _ _ es
            cases l with
            | nil => simp at l1
            | cons x l =>
              cases l with
              | cons y l => simp at l1
              | nil =>
                simp only [Option.some.injEq] at h; subst h
                have : cs[off]? = some x := by have := seg_get es (j := 0) (by omega); simpa using this.symm
                obtain ⟨v, hv, hrv⟩ := hr.get off x this
                have hone := h1 v (List.mem_of_getElem? hv)
                have hc := cells_one hone
                have hlt := (List.getElem?_eq_some_iff.1 hv).1
                refine ⟨v, 1, hrv, .inr ⟨e, hone⟩, rfl, ?_, by rw [← Array.length_toList, hc]; rfl⟩
                rw [hc, List.drop_eq_getElem_cons hlt, List.take_succ_cons, List.take_zero, (List.getElem?_eq_some_iff.1 hv).2]
end
end Px
end

section
namespace Px
open Go Go.RowKit
set_option linter.unusedVariables false
set_option linter.unusedSimpArgs false
/-- The tables tell the program. -/
structure TabOk (P : Program) (tb : Tab) : Prop where
  ty : ∀ t i, tb.ty.look t = some i → P.info? t = some i
  fn : ∀ f fn, tb.fn.look f = some fn → P.funcs[f]? = some fn
  flat : ∀ t, tb.flat t = true → P.stoodInHeld t = false ∧ P.eqGuardType P.depth t = false
  mixed : P.follows .mixedOrders = true
section
variable {P : Program} {tb : Tab}
theorem und_ok (ok : TabOk P tb) {t : TypeId} {d : TypeDesc} (h : und tb t = some d) : P.underlying t = some d := by
  unfold und at h
  cases e : tb.ty.look t with
  | none => rw [e] at h; cases h
  | some i =>
    rw [e] at h
    simp only at h
    unfold Program.underlying
    rw [ok.ty t i e]
    obtain ⟨desc, str, size, bytes, hp, al, fa, zero, cmp, ms⟩ := i
    cases desc with
    | named n u =>
      simp only at h
      cases e2 : tb.ty.look u with
      | none => rw [e2] at h; cases h
      | some j => rw [e2] at h; simp only [Option.some.injEq] at h; simp only [ok.ty u j e2, Option.map_some, h]
    | _ => simp only [Option.some.injEq] at h ⊢; exact h
theorem szA_ok (ok : TabOk P tb) {t : TypeId} {n : Nat} (h : szA tb t = some n) : ∃ i, P.info? t = some i ∧ i.size = n := by
  unfold szA at h
  cases e : tb.ty.look t with
  | none => rw [e] at h; cases h
  | some i => rw [e] at h; cases h; exact ⟨i, ok.ty t i e, rfl⟩
theorem run_sz (ok : TabOk P tb) {t : TypeId} {n : Nat} (h : szA tb t = some n) (w : World) : (Go.sizeOf t).run P w = .ok n w := by
  obtain ⟨i, hi, rfl⟩ := szA_ok ok h
  simp [Go.sizeOf, typeInfo, hi]
theorem run_agg (ok : TabOk P tb) {t : TypeId} {b : Bool} (h : isAggA tb t = some b) (w : World) : (isAgg t).run P w = .ok b w := by
  unfold isAggA at h
  cases e : und tb t with
  | none => rw [e] at h; cases h
  | some d =>
    rw [e] at h
    have := und_ok ok e
    cases d <;> simp only [Option.some.injEq] at h <;> subst h <;> simp [isAgg, run_underlying this]
theorem zeroA_ok (ok : TabOk P tb) {t : TypeId} {a : AV} (h : zeroA tb t = some a) : ∃ i z, P.info? t = some i ∧ i.zero = some z ∧ ∀ (μ : Mu), Rel tb μ a z := by
  unfold zeroA at h
  cases e : tb.ty.look t with
  | none => rw [e] at h; cases h
  | some i =>
    rw [e] at h
    simp only at h
    cases e2 : i.zero with
    | none => rw [e2] at h; cases h
    | some z => rw [e2] at h; exact ⟨i, z, ok.ty t i e, e2, fun μ => absV_rel z a h⟩
theorem run_zero {t : TypeId} {i : TypeInfo} {z : Value} (hi : P.info? t = some i) (hz : i.zero = some z) (w : World) : (zeroValue t).run P w = .ok z w := by
  simp [zeroValue, typeInfo, hi, hz]
end
section
variable {tb : Tab} {μ : Mu}
theorem isCellA_one {a : AV} {v : Value} (h : isCellA tb a = true) (hr : Rel tb μ a v) : v.oneCell' = true := by
  cases a with
  | agg l => cases h
  | tuple l => cases h
  | dead => cases h
  | pv t p =>
    simp only [isCellA] at h
    cases e : und tb t with
    | none => rw [e] at h; cases h
    | some d =>
      rw [e] at h
      cases d <;> first | (cases h; done) | skip
      obtain ⟨_, A, c, h1, _⟩ := relP_slice e hr
      rw [h1]; rfl
  | bool b => have e : v = _ := hr; rw [e]; rfl
  | int k n => have e : v = _ := hr; rw [e]; rfl
  | str s => obtain ⟨ba, e, h2⟩ := hr; rw [e]; rfl
  | ptr q =>
    cases q with
    | none => have e : v = _ := hr; rw [e]; rfl
    | some q => obtain ⟨p, hp, e⟩ := hr; rw [e]; rfl
  | glob g o => have e : v = _ := hr; rw [e]; rfl
  | nils => have e : v = _ := hr; rw [e]; rfl
  | fp t p => obtain ⟨b, o, u, e, h2⟩ := hr; rw [e]; rfl
  | vs x ver t es =>
    obtain ⟨h1, h2, el, h3⟩ := hr
    obtain ⟨_, A, c, e, _⟩ := relP_slice h3 h1
    rw [e]; rfl
  | ar x t => obtain ⟨p, n, ad, e, sz, h1, h2, h3, h4⟩ := hr; rw [h3]; rfl
  | ap x t i => obtain ⟨p, sz, h1, h2, h3, h4⟩ := hr; rw [h4]; rfl
  | map r =>
    cases r with
    | none => have e : v = _ := hr; rw [e]; rfl
    | some x => cases h
  | func fn f c => obtain ⟨f', c', e, h2⟩ := hr; rw [e]; rfl
  | nilFunc => have e : v = _ := hr; rw [e]; rfl
  | iface t a => obtain ⟨v', e, h2⟩ := hr; rw [e]; rfl
  | nilIface => have e : v = _ := hr; rw [e]; rfl
theorem allCellA_ones : ∀ {cs : List AV} {vs : List Value}, allCellA tb cs = true → RelL tb μ cs vs → ∀ v ∈ vs, v.oneCell' = true
  | [], vs, _, h, v, hv => by rw [show vs = [] from h] at hv; cases hv
  | a :: cs, _, h, ⟨u, us, e, h1, h2⟩, v, hv => by
    simp only [allCellA, Bool.and_eq_true] at h
    subst e
    rcases List.mem_cons.1 hv with rfl | hv
    · exact isCellA_one h.1 h1
    · exact allCellA_ones h.2 h2 v hv
theorem normF_ok {nm : TypeId → AV → Option PV} (hnm : ∀ t a p v, nm t a = some p → Rel tb μ a v → RelP tb μ.fz t p v) {cs : List AV} {xs : List Value} (hr : RelL tb μ cs xs) (h1 : ∀ c ∈ xs, c.oneCell' = true) : ∀ {fs : List Field} {l : List PV}, normF nm (partA tb · cs ·) fs = some l → RelF tb μ.fz l fs xs
  | [], l, h => by simp only [normF, Option.some.injEq] at h; subst h; exact (rfl : ([] : List Field) = [])
  | f :: fs, l, h => by
    simp only [normF] at h
    cases e1 : partA tb f.type cs f.offset with
    | none => rw [e1] at h; cases h
    | some a =>
      rw [e1] at h
      simp only at h
      cases e2 : nm f.type a with
      | none => rw [e2] at h; cases h
      | some p =>
        rw [e2] at h
        simp only at h
        cases e3 : normF nm (partA tb · cs ·) fs with
        | none => rw [e3] at h; cases h
        | some r =>
          rw [e3] at h
          simp only [Option.some.injEq] at h
          subst h
          obtain ⟨v, sz, k1, k2, k3, k4, k5⟩ := partA_val e1 hr h1
          exact ⟨f, fs, rfl, ⟨v, sz, hnm _ _ _ _ e2 k1, k2, k3, k4, k5⟩, normF_ok hnm hr h1 e3⟩
theorem normN_ok {e : TypeId} {sz : Nat} (hsz : szA tb e = some sz) {nm : AV → Option PV} (hnm : ∀ a p v, nm a = some p → Rel tb μ a v → RelP tb μ.fz e p v) {cs : List AV} {xs : List Value} (hr : RelL tb μ cs xs) (h1 : ∀ c ∈ xs, c.oneCell' = true) : ∀ {n off : Nat} {l : List PV}, normN nm (partA tb e cs ·) sz n off = some l → RelN tb μ.fz e sz l off xs ∧ l.length = n
  | 0, off, l, h => by simp only [normN, Option.some.injEq] at h; subst h; exact ⟨trivial, rfl⟩
  | n + 1, off, l, h => by
    simp only [normN] at h
    cases e1 : partA tb e cs off with
    | none => rw [e1] at h; cases h
    | some a =>
      rw [e1] at h
      simp only at h
      cases e2 : nm a with
      | none => rw [e2] at h; cases h
      | some p =>
        rw [e2] at h
        simp only at h
        cases e3 : normN nm (partA tb e cs ·) sz n (off + sz) with
        | none => rw [e3] at h; cases h
        | some r =>
          rw [e3] at h
          simp only [Option.some.injEq] at h
          subst h
          obtain ⟨v, sz', k1, k2, k3, k4, k5⟩ := partA_val e1 hr h1
          rw [hsz] at k3; cases k3
          obtain ⟨m1, m2⟩ := normN_ok hsz hnm hr h1 e3
          exact ⟨⟨⟨v, hnm _ _ _ e2 k1, k2, k4, k5⟩, m1⟩, by simp [m2]⟩
theorem norm_ok : ∀ {d : Nat} {t : TypeId} {a : AV} {p : PV} {v : Value}, norm tb d t a = some p → Rel tb μ a v → RelP tb μ.fz t p v
  | 0, t, a, p, v, h, hr => by simp only [norm] at h; cases h
  | d + 1, t, a, p, v, h, hr => by
    simp only [norm] at h
    cases e : und tb t with
    | none => rw [e] at h; cases h
    | some de =>
      rw [e] at h
      cases de <;> first | (cases h; done) | skip
      · cases a <;> first | (cases h; done) | skip
        simp only [Option.some.injEq] at h; subst h; exact ⟨e, hr⟩
      · rename_i k
        cases a <;> first | (cases h; done) | skip
        rename_i k' n
        simp only at h
        by_cases ek : k = k'
        · subst ek
          simp only [decide_true, cond_true, Option.some.injEq] at h; subst h; exact ⟨k, e, hr⟩
        · simp [ek] at h
      · cases a <;> first | (cases h; done) | skip
        simp only [Option.some.injEq] at h; subst h; exact ⟨e, hr⟩
      · rename_i el
        cases a <;> first | (cases h; done) | skip
        · simp only [Option.some.injEq] at h; subst h
          have ev : v = _ := hr
          exact .inr (.inr ⟨el, none, 0, e, ev, Nat.le_refl _, .inl rfl⟩)
        · rename_i t' p'
          simp only at h
          cases eb : Nat.beq t t' with
          | false => rw [eb] at h; cases h
          | true =>
            rw [eb] at h; simp only [cond_true, Option.some.injEq] at h; subst h
            rw [Nat.beq_eq] at eb; subst eb; exact hr
        · rename_i x ver t' es
          simp only at h
          cases eb : Nat.beq t t' with
          | false => rw [eb] at h; cases h
          | true =>
            rw [eb] at h; simp only [cond_true, Option.some.injEq] at h; subst h
            rw [Nat.beq_eq] at eb; subst eb; exact hr.1
      · rename_i n el
        cases a <;> first | (cases h; done) | skip
        · rename_i t' p'
          simp only at h
          cases eb : Nat.beq t t' with
          | false => rw [eb] at h; cases h
          | true =>
            rw [eb] at h; simp only [cond_true, Option.some.injEq] at h; subst h
            rw [Nat.beq_eq] at eb; subst eb; exact hr
        · rename_i cs
          simp only at h
          obtain ⟨xs, ev, hl⟩ := hr
          cases ea : allCellA tb cs with
          | false => rw [ea] at h; cases h
          | true =>
            cases es : szA tb t with
            | none => rw [ea, es] at h; cases h
            | some m =>
              cases ee : szA tb el with
              | none => rw [ea, es, ee] at h; cases h
              | some sz =>
                rw [ea, es, ee] at h
                simp only at h
                cases eb : Nat.beq cs.length m with
                | false => rw [eb] at h; cases h
                | true =>
                  rw [eb] at h
                  simp only [cond_true] at h
                  cases en : normN (norm tb d el) (partA tb el cs ·) sz n 0 with
                  | none => rw [en] at h; cases h
                  | some l =>
                    rw [en] at h
                    simp only [Option.some.injEq] at h; subst h
                    rw [Nat.beq_eq] at eb
                    obtain ⟨m1, m2⟩ := normN_ok ee (fun a p v => norm_ok) hl (allCellA_ones ea hl) en
                    exact .inr (.inl ⟨n, el, xs, sz, e, ee, ev, by rw [es, ← eb, ← hl.len, Array.length_toList], m2, m1⟩)
      · rename_i fs
        cases a <;> first | (cases h; done) | skip
        · rename_i t' p'
          simp only at h
          cases eb : Nat.beq t t' with
          | false => rw [eb] at h; cases h
          | true =>
            rw [eb] at h; simp only [cond_true, Option.some.injEq] at h; subst h
            rw [Nat.beq_eq] at eb; subst eb; exact hr
        · rename_i cs
          simp only at h
          obtain ⟨xs, ev, hl⟩ := hr
          cases ea : allCellA tb cs with
          | false => rw [ea] at h; cases h
          | true =>
            cases es : szA tb t with
            | none => rw [ea, es] at h; cases h
            | some m =>
              cases en : normF (norm tb d) (partA tb · cs ·) fs.toList with
              | none => rw [ea, es, en] at h; cases h
              | some l =>
                rw [ea, es, en] at h
                simp only at h
                cases eb : Nat.beq cs.length m with
                | false => rw [eb] at h; cases h
                | true =>
                  rw [eb] at h
                  simp only [cond_true, Option.some.injEq] at h; subst h
                  rw [Nat.beq_eq] at eb
                  exact .inl ⟨fs, xs, e, ev, by rw [es, ← eb, ← hl.len, Array.length_toList], normF_ok (fun t a p v => norm_ok) hl (allCellA_ones ea hl) en⟩
theorem fieldIx_ok {off ft : Nat} : ∀ {fs : List Field} {i0 i : Nat}, fieldIx off ft fs i0 = some i → ∃ f, i0 ≤ i ∧ fs[i - i0]? = some f ∧ f.offset = off ∧ f.type = ft
  | [], i0, i, h => by simp only [fieldIx] at h; cases h
  | f :: fs, i0, i, h => by
    simp only [fieldIx] at h
    cases e : Nat.beq f.offset off && Nat.beq f.type ft with
    | true =>
      rw [e] at h; simp only [cond_true, Option.some.injEq] at h; subst h
      rw [Bool.and_eq_true, Nat.beq_eq, Nat.beq_eq] at e
      exact ⟨f, Nat.le_refl _, by simp, e.1, e.2⟩
    | false =>
      rw [e] at h; simp only [cond_false] at h
      obtain ⟨g, h1, h2, h3⟩ := fieldIx_ok h
      refine ⟨g, by omega, ?_, h3⟩
      rw [show i - i0 = (i - (i0 + 1)) + 1 by omega]; simpa using h2
/-- A part of a variable's value. -/
theorem partV_ok {t ft off : Nat} {v a : AV} {u : Value} (h : partV tb t v ft off = some a) (hr : Rel tb μ v u) (hk : Kind tb t u) (hs : szA tb t = some u.cells.size) (h1 : ∀ c ∈ u.cells.toList, c.oneCell' = true) : ∃ w sz, Rel tb μ a w ∧ Kind tb ft w ∧ szA tb ft = some sz ∧ w.cells.toList = (u.cells.toList.drop off).take sz ∧ w.cells.size = sz := by
  unfold partV at h
  cases e : Nat.beq off 0 && Nat.beq t ft with
  | true =>
    rw [e] at h; simp only [cond_true, Option.some.injEq] at h; subst h
    rw [Bool.and_eq_true, Nat.beq_eq, Nat.beq_eq] at e
    obtain ⟨e1, e2⟩ := e
    subst e1; subst e2
    exact ⟨u, _, hr, hk, hs, by rw [List.drop_zero, ← Array.length_toList, List.take_length], rfl⟩
  | false =>
    rw [e] at h; simp only [cond_false] at h
    cases v <;> first | (cases h; done) | skip
    · rename_i t' p
      simp only at h
      have hc : ∀ cs, expandC tb 20 t' p = some cs → partA tb ft cs off = some a → ∃ w sz, Rel tb μ a w ∧ Kind tb ft w ∧ szA tb ft = some sz ∧ w.cells.toList = (u.cells.toList.drop off).take sz ∧ w.cells.size = sz := fun cs e1 e2 => partA_val e2 (expandC_ok e1 hr) h1
      cases eu : und tb t' with
      | none => rw [eu] at h; cases h
      | some de =>
        rw [eu] at h
        cases de <;> first | (cases h; done) | skip
        · simp only at h
          cases e1 : expandC tb 20 t' p with
          | none => rw [e1] at h; cases h
          | some cs => rw [e1] at h; exact hc cs e1 h
        · rename_i fs
          simp only at h
          cases ef : fieldIx off ft fs.toList 0 with
          | none =>
            rw [ef] at h
            simp only at h
            cases e1 : expandC tb 20 t' p with
            | none => rw [e1] at h; cases h
            | some cs => rw [e1] at h; exact hc cs e1 h
          | some i =>
            rw [ef] at h
            simp only at h
            obtain ⟨f, _, h2, h3, h4⟩ := fieldIx_ok ef
            obtain ⟨_, xs, h5, h6, h7⟩ := relP_struct eu hr
            obtain ⟨w, sz, k1, k2, k3, k4, k5⟩ := relF_get h7 i f (by simpa using h2)
            rw [h4] at k1 k2 k3
            rw [h3] at k4
            refine ⟨w, sz, expandV_ok h k1, k2, k3, ?_, k5⟩
            rw [k4, h5]; rfl
    · simp only at h
      obtain ⟨xs, ev, hl⟩ := hr
      rw [ev] at h1 ⊢
      exact partA_val h hl h1
/-- A value that may be laid into a variable. -/
theorem boxOk_ok {t : TypeId} {v : AV} {u : Value} (h : boxOk tb t v = true) (hr : Rel tb μ v u) : Kind tb t u ∧ szA tb t = some u.cells.size ∧ ∀ c ∈ u.cells.toList, c.oneCell' = true := by
  unfold boxOk at h
  cases e : isAggA tb t with
  | none => rw [e] at h; cases h
  | some ag =>
    cases es : szA tb t with
    | none => rw [e, es] at h; cases ag <;> cases h
    | some n =>
      rw [e, es] at h
      cases ag with
      | false =>
        simp only [Bool.and_eq_true] at h
        have h1 := isCellA_one h.1 hr
        have hc := cells_one h1
        have hn : n = 1 := by have := h.2; rwa [Nat.beq_eq] at this
        refine ⟨.inr ⟨e, h1⟩, by rw [← Array.length_toList, hc, hn]; rfl, fun c hcm => ?_⟩
        rw [hc] at hcm; rw [List.mem_singleton.1 hcm]; exact h1
      | true =>
        cases v <;> first | (cases h; done) | skip
        · rename_i t' p
          simp only at h
          cases e1 : isAggA tb t' with
          | none => rw [e1] at h; cases h
          | some ag' =>
            cases ag' with
            | false => rw [e1] at h; cases h
            | true =>
              cases e2 : expandC tb 20 t' p with
              | none => rw [e1, e2] at h; cases h
              | some cs =>
                rw [e1, e2] at h
                simp only [Bool.and_eq_true, Nat.beq_eq] at h
                have hl := expandC_ok e2 hr
                rcases relP_kind hr with ⟨_, xs, ex⟩ | ⟨h3, _⟩
                · exact ⟨.inl ⟨e, xs, ex⟩, by rw [← h.2, ← hl.len, Array.length_toList], allCellA_ones h.1 hl⟩
                · rw [e1] at h3; cases h3
        · rename_i cs
          simp only [Bool.and_eq_true, Nat.beq_eq] at h
          obtain ⟨xs, ev, hl⟩ := hr
          rw [ev]
          exact ⟨.inl ⟨e, xs, rfl⟩, by show some n = some xs.size; rw [← h.2, ← hl.len, Array.length_toList], allCellA_ones h.1 hl⟩
end
end Px
end

section
namespace Px
open Go Go.RowKit
set_option linter.unusedVariables false
set_option linter.unusedSimpArgs false
abbrev Hp := Nat → Option AObj
def upd {α : Type} (h : Nat → Option α) (x : Nat) (o : α) : Nat → Option α := fun y => if y = x then some o else h y
theorem upd_same {α : Type} (h : Nat → Option α) (x : Nat) (o : α) : upd h x o x = some o := by simp [upd]
theorem upd_ne {α : Type} (h : Nat → Option α) {x y : Nat} (o : α) (e : y ≠ x) : upd h x o y = h y := by simp [upd, e]
theorem look_upd {α : Type} (h : T α) (x : Nat) (o : α) : (h.put o x).look = upd h.look x o := by funext y; rw [T.look_put]; rfl
/-- Nothing but some blocks has turned. -/
structure Fr (S : Nat → Prop) (w w' : World) : Prop where
  os : w'.os = w.os
  tape : w'.tape = w.tape
  output : w'.output = w.output
  size : w.heap.size ≤ w'.heap.size
  block : ∀ k, k < w.heap.size → ¬ S k → w'.heap[k]? = w.heap[k]?
theorem Fr.refl (S : Nat → Prop) (w : World) : Fr S w w := ⟨rfl, rfl, rfl, Nat.le_refl _, fun _ _ _ => rfl⟩
theorem Fr.trans {S S' S'' : Nat → Prop} {a b c : World} (h : Fr S a b) (k : Fr S' b c) (h1 : ∀ x, x < a.heap.size → S x → S'' x) (h2 : ∀ x, x < a.heap.size → S' x → S'' x) : Fr S'' a c :=
  ⟨k.os.trans h.os, k.tape.trans h.tape, k.output.trans h.output, Nat.le_trans h.size k.size, fun i hi hs => (k.block i (Nat.lt_of_lt_of_le hi h.size) (fun x => hs (h2 i hi x))).trans (h.block i hi (fun x => hs (h1 i hi x)))⟩
theorem Fr.of_below {S : Nat → Prop} {w w' : World} (h : Below w.heap.size w w') : Fr S w w' := ⟨h.os, h.tape, h.output, h.size, fun k hk _ => h.block k hk⟩
theorem Fr.below {w w' : World} (h : Fr (fun _ => False) w w') : Below w.heap.size w w' := ⟨h.os, h.tape, h.output, h.size, fun k hk => h.block k hk (fun x => x)⟩
/-- Where a call began: blocks that it may turn, cells that never turn, the world. -/
structure Bs where
  S : Nat → Prop
  z : Fz
  w : World
section
variable (tb : Tab)
/-- Elements in cells. -/
def ArrAt (fz : Fz) (e : TypeId) (sz : Nat) (g : Nat → Option Value) : List PV → Nat → Prop
  | [], _ => True
  | p :: ps, o => (∃ u, RelP tb fz e p u ∧ Kind tb e u ∧ u.cells.size = sz ∧ (∀ c ∈ u.cells.toList, c.oneCell' = true) ∧ CellsAt g o u.cells.toList) ∧ ArrAt fz e sz g ps (o + sz)
structure BoxAt (μ : Mu) (w : World) (x : Nat) (t : TypeId) (v : AV) (p : Place) (u : Value) : Prop where
  pl : μ.pl x = some p
  rel : Rel tb μ v u
  kind : Kind tb t u
  sz : szA tb t = some u.cells.size
  r : p.r = u.cells.size
  one : ∀ c ∈ u.cells.toList, c.oneCell' = true
  cells : CellsAt (fun o => w.cell? ⟨p.b, o, none⟩) p.o u.cells.toList
  free : ∀ j, j < p.r → w.frozen? ⟨p.b, p.o + j, none⟩ = false ∧ μ.fz p.b (p.o + j) = none
structure ArrIs (μ : Mu) (w : World) (x : Nat) (t : TypeId) (es : List PV) (p : Place) (e sz : Nat) : Prop where
  pl : μ.pl x = some p
  el : elemA tb t = some (e, sz)
  r : p.r = es.length * sz
  cells : ArrAt tb μ.fz e sz (fun o => w.cell? ⟨p.b, o, none⟩) es p.o
  free : ∀ j, j < p.r → (w.cell? ⟨p.b, p.o + j, none⟩).isSome = true ∧ w.frozen? ⟨p.b, p.o + j, none⟩ = false ∧ μ.fz p.b (p.o + j) = none
structure VecIs (μ : Mu) (w : World) (x : Nat) (t : TypeId) (ver : Nat) (A : Option Addr) (n c e sz : Nat) : Prop where
  sl : μ.sl x ver = some (.slice A n c)
  el : elemA tb t = some (e, sz)
  le : n ≤ c
  nil : A = none → n = 0 ∧ c = 0
  free : n < c → ∃ b o, A = some ⟨b, o, none⟩ ∧ ∀ j, n * sz ≤ j → j < c * sz → (w.cell? ⟨b, o + j, none⟩).isSome = true ∧ w.frozen? ⟨b, o + j, none⟩ = false ∧ μ.fz b (o + j) = none
def ObjAt (μ : Mu) (w : World) (x : Nat) : AObj → Prop
  | .box t v => ∃ p u, BoxAt tb μ w x t v p u
  | .vec t ver => ∃ A n c e sz, VecIs tb μ w x t ver A n c e sz
  | .arr t es => ∃ p e sz, ArrIs tb μ w x t es p e sz
  | .map _ _ => False
  | .dead => True
/-- A name's own block. -/
def Owns (μ : Mu) (h : Hp) (x b : Nat) : Prop := match h x with
  | some (.box _ _) => ∃ p, μ.pl x = some p ∧ p.b = b
  | some (.arr _ _) => ∃ p, μ.pl x = some p ∧ p.b = b
  | some (.vec _ ver) => ∃ o n c, μ.sl x ver = some (.slice (some ⟨b, o, none⟩) n c) ∧ n < c
  | _ => False
/-- The plain memory tells the world's. -/
structure Inv (B : Bs) (μ : Mu) (h : Hp) (w : World) : Prop where
  fr : Fr B.S B.w w
  fz : ∀ b o v, μ.fz b o = some v → w.cell? ⟨b, o, none⟩ = some v ∧ v.oneCell' = true
  fzb : ∀ b o v, μ.fz b o = some v → B.z b o = some v ∨ B.S b ∨ B.w.heap.size ≤ b
  base : ∀ x b, Owns μ h x b → b < w.heap.size ∧ (B.S b ∨ B.w.heap.size ≤ b)
  pdom : ∀ x p, μ.pl x = some p → h x ≠ none
  sdom : ∀ x n v, μ.sl x n = some v → ∃ t ver, h x = some (.vec t ver) ∧ n ≤ ver
  obj : ∀ x o, h x = some o → ObjAt tb μ w x o
  apart : ∀ x y b, x ≠ y → Owns μ h x b → Owns μ h y b → False
end
section
variable {tb : Tab} {B : Bs} {w w' : World} {μ μ' : Mu} {h h' : Hp}
theorem ArrAt.mono {fz fz' : Fz} (hz : ∀ b o v, fz b o = some v → fz' b o = some v) {e : TypeId} {sz : Nat} {g g' : Nat → Option Value} : ∀ {ps : List PV} {o : Nat}, (∀ j v, o ≤ j → j < o + ps.length * sz → g j = some v → g' j = some v) → ArrAt tb fz e sz g ps o → ArrAt tb fz' e sz g' ps o
  | [], _, _, _ => trivial
  | p :: ps, o, hg, ⟨⟨u, h1, h2, h3, h4, h5⟩, h6⟩ => by
    have e1 : o + sz + ps.length * sz = o + (ps.length + 1) * sz := by rw [Nat.succ_mul]; omega
    refine ⟨⟨u, RelP.mono tb hz e p u h1, h2, h3, h4, fun j c hj => ?_⟩, ArrAt.mono hz (fun j v hj hj' hv => hg j v (by omega) (by rw [List.length_cons, ← e1]; exact hj') hv) h6⟩
    have hlt := (List.getElem?_eq_some_iff.1 hj).1
    rw [Array.length_toList, h3] at hlt
    exact hg _ _ (by omega) (by rw [List.length_cons, ← e1]; omega) (h5 j c hj)
theorem ArrAt.relE {fz : Fz} {e : TypeId} {sz b : Nat} {g : Nat → Option Value} : ∀ {ps : List PV} {o : Nat}, (∀ j v, o ≤ j → j < o + ps.length * sz → g j = some v → fz b j = some v) → ArrAt tb fz e sz g ps o → RelE tb fz e sz b ps o
  | [], _, _, _ => trivial
  | p :: ps, o, hg, ⟨⟨u, h1, h2, h3, h4, h5⟩, h6⟩ => by
    have e1 : o + sz + ps.length * sz = o + (ps.length + 1) * sz := by rw [Nat.succ_mul]; omega
    refine ⟨⟨u, h1, h2, h3, fun j c hj => ?_⟩, ArrAt.relE (fun j v hj hj' hv => hg j v (by omega) (by rw [List.length_cons, ← e1]; exact hj') hv) h6⟩
    have hlt := (List.getElem?_eq_some_iff.1 hj).1
    rw [Array.length_toList, h3] at hlt
    exact hg _ _ (by omega) (by rw [List.length_cons, ← e1]; omega) (h5 j c hj)
/-- An object whose own block is as it was. -/
theorem ObjAt.move {x : Nat} {o : AObj} (ho : h x = some o) (H : ObjAt tb μ w x o) (hμ : Ext μ μ') (hw : ∀ b, Owns μ h x b → w'.heap[b]? = w.heap[b]?) (hz : ∀ b o, Owns μ h x b → μ.fz b o = none → μ'.fz b o = none) : ObjAt tb μ' w' x o := by
  cases o with
  | box t v =>
    obtain ⟨p, u, H⟩ := H
    have hown : Owns μ h x p.b := by unfold Owns; rw [ho]; exact ⟨p, H.pl, rfl⟩
    refine ⟨p, u, hμ.pl _ _ H.pl, H.rel.mono hμ, H.kind, H.sz, H.r, H.one, fun j c hj => ?_, fun j hj => ?_⟩
    · have := H.cells j c hj
      show w'.cell? _ = _
      rw [World.cell?_of_block (w := w) (hw _ hown)]; exact this
    · rw [World.frozen?_of_block (w := w) (hw _ hown)]
      exact ⟨(H.free j hj).1, hz _ _ hown (H.free j hj).2⟩
  | vec t ver =>
    obtain ⟨A, n, c, e, sz, H⟩ := H
    refine ⟨A, n, c, e, sz, hμ.sl _ _ _ H.sl, H.el, H.le, H.nil, fun hlt => ?_⟩
    obtain ⟨b, o, hA, hf⟩ := H.free hlt
    have hown : Owns μ h x b := by unfold Owns; rw [ho]; exact ⟨o, n, c, by rw [H.sl, hA], hlt⟩
    refine ⟨b, o, hA, fun j h1 h2 => ?_⟩
    rw [World.cell?_of_block (w := w) (hw _ hown), World.frozen?_of_block (w := w) (hw _ hown)]
    obtain ⟨k1, k2, k3⟩ := hf j h1 h2
    exact ⟨k1, k2, hz _ _ hown k3⟩
  | arr t es =>
    obtain ⟨p, e, sz, H⟩ := H
    have hown : Owns μ h x p.b := by unfold Owns; rw [ho]; exact ⟨p, H.pl, rfl⟩
    refine ⟨p, e, sz, hμ.pl _ _ H.pl, H.el, H.r, H.cells.mono hμ.fz (fun j v _ _ hv => ?_), fun j hj => ?_⟩
    · show w'.cell? _ = _
      rw [World.cell?_of_block (w := w) (hw _ hown)]; exact hv
    · rw [World.cell?_of_block (w := w) (hw _ hown), World.frozen?_of_block (w := w) (hw _ hown)]
      obtain ⟨k1, k2, k3⟩ := H.free j hj
      exact ⟨k1, k2, hz _ _ hown k3⟩
  | map es ck => exact H
  | dead => trivial
theorem owns_congr {x b : Nat} (hh : h' x = h x) (hp : μ'.pl x = μ.pl x) (hs : ∀ n, μ'.sl x n = μ.sl x n) : Owns μ' h' x b ↔ Owns μ h x b := by
  unfold Owns
  rw [hh, hp]
  cases h x with
  | none => exact Iff.rfl
  | some o => cases o <;> first | exact Iff.rfl | (simp only [hs])
/-- Some names' objects have turned, and new memory has come. -/
theorem Inv.upd (I : Inv tb B μ h w) (N : Nat → Prop)
    (hfr : Fr B.S B.w w') (hsz : w.heap.size ≤ w'.heap.size)
    (hblk : ∀ b, b < w.heap.size → (∀ x, N x → ¬ Owns μ h x b) → w'.heap[b]? = w.heap[b]?)
    (hext : Ext μ μ') (hpl : ∀ x, ¬ N x → μ'.pl x = μ.pl x ∧ ∀ n, μ'.sl x n = μ.sl x n)
    (hz : ∀ b o v, μ'.fz b o = some v → μ.fz b o = some v ∨ ((w.heap.size ≤ b ∨ ∃ x, N x ∧ Owns μ h x b) ∧ w'.cell? ⟨b, o, none⟩ = some v ∧ v.oneCell' = true))
    (hzo : ∀ b o v, μ.fz b o = some v → (∃ x, N x ∧ Owns μ h x b) → w'.cell? ⟨b, o, none⟩ = some v)
    (hh : ∀ x, ¬ N x → h' x = h x) (hdom : ∀ x, N x → h' x ≠ none)
    (hsd : ∀ x n v, N x → μ'.sl x n = some v → ∃ t ver, h' x = some (.vec t ver) ∧ n ≤ ver)
    (hobj : ∀ x o, N x → h' x = some o → ObjAt tb μ' w' x o)
    (hown : ∀ x b, N x → Owns μ' h' x b → b < w'.heap.size ∧ (w.heap.size ≤ b ∨ ∃ y, N y ∧ Owns μ h y b))
    (hap : ∀ x y b, N x → N y → x ≠ y → Owns μ' h' x b → Owns μ' h' y b → False) : Inv tb B μ' h' w' := by
  have hold : ∀ x b, ¬ N x → (Owns μ' h' x b ↔ Owns μ h x b) := fun x b hx => owns_congr (hh x hx) (hpl x hx).1 (hpl x hx).2
  have hlt : ∀ b o v, μ.fz b o = some v → b < w.heap.size := fun b o v hv => World.block_lt_of_cell? w _ (I.fz b o v hv).1
  have hcell : ∀ b o v, μ.fz b o = some v → w'.cell? ⟨b, o, none⟩ = some v := fun b o v hv => by
    by_cases hx : ∃ x, N x ∧ Owns μ h x b
    · exact hzo b o v hv hx
    · rw [World.cell?_of_block (w := w) (hblk b (hlt b o v hv) (fun x hn ho => hx ⟨x, hn, ho⟩))]; exact (I.fz b o v hv).1
  refine ⟨hfr, fun b o v hv => ?_, fun b o v hv => ?_, fun x b hx => ?_, fun x p hp => ?_, fun x n v hv => ?_, fun x o ho => ?_, fun x y b hxy hx hy => ?_⟩
  · rcases hz b o v hv with hv | ⟨_, h1, h2⟩
    · exact ⟨hcell b o v hv, (I.fz b o v hv).2⟩
    · exact ⟨h1, h2⟩
  · rcases hz b o v hv with hv | ⟨hb, _⟩
    · exact I.fzb b o v hv
    · rcases hb with hb | ⟨x, _, ho⟩
      · exact .inr (.inr (Nat.le_trans I.fr.size hb))
      · exact .inr (I.base x b ho).2
  · by_cases hn : N x
    · obtain ⟨h1, h2⟩ := hown x b hn hx
      refine ⟨h1, ?_⟩
      rcases h2 with h2 | ⟨y, _, hy⟩
      · exact .inr (Nat.le_trans I.fr.size h2)
      · exact (I.base y b hy).2
    · obtain ⟨h1, h2⟩ := I.base x b ((hold x b hn).1 hx)
      exact ⟨Nat.lt_of_lt_of_le h1 hsz, h2⟩
  · by_cases hn : N x
    · exact hdom x hn
    · rw [(hpl x hn).1] at hp; rw [hh x hn]; exact I.pdom x p hp
  · by_cases hn : N x
    · exact hsd x n v hn hv
    · rw [(hpl x hn).2] at hv; rw [hh x hn]; exact I.sdom x n v hv
  · by_cases hn : N x
    · exact hobj x o hn ho
    · rw [hh x hn] at ho
      refine (I.obj x o ho).move ho hext (fun b hb => hblk b (I.base x b hb).1 (fun y hy hoy => ?_)) (fun b o' hb hnone => ?_)
      · exact I.apart x y b (fun e => hn (e ▸ hy)) hb hoy
      · cases e : μ'.fz b o' with
        | none => rfl
        | some v =>
          rcases hz b o' v e with hv | ⟨hb2, _⟩
          · rw [hnone] at hv; cases hv
          · rcases hb2 with hb2 | ⟨y, hy, hoy⟩
            · have := (I.base x b hb).1; omega
            · exact (I.apart x y b (fun e => hn (e ▸ hy)) hb hoy).elim
  · by_cases hn : N x
    · by_cases hm : N y
      · exact hap x y b hn hm hxy hx hy
      · have hy' := (hold y b hm).1 hy
        rcases (hown x b hn hx).2 with h2 | ⟨z, hz2, hoz⟩
        · have := (I.base y b hy').1; omega
        · exact I.apart y z b (fun e => hm (e ▸ hz2)) hy' hoz
    · have hx' := (hold x b hn).1 hx
      by_cases hm : N y
      · rcases (hown y b hm hy).2 with h2 | ⟨z, hz2, hoz⟩
        · have := (I.base x b hx').1; omega
        · exact I.apart x z b (fun e => hn (e ▸ hz2)) hx' hoz
      · exact I.apart x y b hxy hx' ((hold y b hm).1 hy)
/-- Nothing has turned in memory. -/
theorem Inv.still (I : Inv tb B μ h w) (hb : Fr B.S B.w w') (hh : w'.heap = w.heap) : Inv tb B μ h w' :=
  I.upd (fun _ => False) hb (by rw [hh]; exact Nat.le_refl _) (fun b _ _ => by rw [hh]) (Ext.refl μ) (fun _ _ => ⟨rfl, fun _ => rfl⟩) (fun _ _ _ hv => .inl hv) (fun _ _ _ _ ⟨_, hx, _⟩ => hx.elim) (fun _ _ => rfl) (fun _ hx => hx.elim) (fun _ _ _ hx => hx.elim) (fun _ _ hx => hx.elim) (fun _ _ hx => hx.elim) (fun _ _ _ hx => hx.elim)
theorem Inv.unmapped (I : Inv tb B μ h w) {x : Nat} (hx : h x = none) : μ.pl x = none ∧ ∀ n, μ.sl x n = none := by
  refine ⟨?_, fun n => ?_⟩
  · cases e : μ.pl x with
    | none => rfl
    | some p => exact absurd hx (I.pdom x p e)
  · cases e : μ.sl x n with
    | none => rfl
    | some v => obtain ⟨t, ver, e2, _⟩ := I.sdom x n v e; rw [hx] at e2; cases e2
end
end Px
end
