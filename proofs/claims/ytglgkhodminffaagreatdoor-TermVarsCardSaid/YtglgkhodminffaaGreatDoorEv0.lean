/- A plain run of the program's loaded form over a memory of named blocks, and that what it answers the program answers: part 0. -/
import GoSem.Core.Code
import GoSem.Dispatch
import Derived.Deep.AppendSrc
import Derived.Orders
import Derived.Defers
import Derived.Below
import Derived.Laws.IdiomCopy
import Derived.Deep.Upon
section
namespace Ev
set_option linter.unusedVariables false
/-- A trie over numbers. -/
inductive T (α : Type) where
  | leaf
  | node (l : T α) (v : Option α) (r : T α)
theorem rec_true {β : Type} (a b : β) {c : Bool} (h : c = true) : @Bool.rec (fun _ => β) a b c = b := by subst h; rfl
theorem rec_false {β : Type} (a b : β) {c : Bool} (h : c = false) : @Bool.rec (fun _ => β) a b c = a := by subst h; rfl
theorem beq_yes {a b : Nat} (h : a = b) : Nat.beq a b = true := by rw [Nat.beq_eq]; exact h
theorem beq_no {a b : Nat} (h : ¬ a = b) : Nat.beq a b = false := by
  cases e : Nat.beq a b with
  | false => rfl
  | true => exact absurd ((Nat.beq_eq ▸ e : a = b)) h
namespace T
variable {α : Type}
noncomputable def look (t : T α) : Nat → Option α :=
  @T.rec α (fun _ => Nat → Option α) (fun _ => none) (fun _ v _ ihl ihr k => @Bool.rec (fun _ => Option α) (@Bool.rec (fun _ => Option α) (ihr (Nat.div (Nat.sub k 1) 2)) (ihl (Nat.div k 2)) (Nat.beq (Nat.mod k 2) 1)) v (Nat.beq k 0)) t
noncomputable def one (x : α) (f : Nat) : Nat → T α :=
  @Nat.rec (fun _ => Nat → T α) (fun _ => .node .leaf (some x) .leaf) (fun _ ih k => @Bool.rec (fun _ => T α) (@Bool.rec (fun _ => T α) (.node .leaf none (ih (Nat.div (Nat.sub k 1) 2))) (.node (ih (Nat.div k 2)) none .leaf) (Nat.beq (Nat.mod k 2) 1)) (.node .leaf (some x) .leaf) (Nat.beq k 0)) f
noncomputable def put (x : α) (t : T α) : Nat → T α :=
  @T.rec α (fun _ => Nat → T α) (fun k => one x k k) (fun l v r ihl ihr k => @Bool.rec (fun _ => T α) (@Bool.rec (fun _ => T α) (.node l v (ihr (Nat.div (Nat.sub k 1) 2))) (.node (ihl (Nat.div k 2)) v r) (Nat.beq (Nat.mod k 2) 1)) (.node l (some x) r) (Nat.beq k 0)) t
theorem look_leaf (k : Nat) : look (leaf : T α) k = none := rfl
theorem look_node (l r : T α) (v : Option α) (k : Nat) : look (.node l v r) k = if k = 0 then v else if k % 2 = 1 then look l (k / 2) else look r ((k - 1) / 2) := by
  show @Bool.rec (fun _ => Option α) (@Bool.rec (fun _ => Option α) (look r ((k - 1) / 2)) (look l (k / 2)) (Nat.beq (k % 2) 1)) v (Nat.beq k 0) = _
  by_cases h : k = 0
  · rw [rec_true _ _ (beq_yes h), if_pos h]
  · rw [rec_false _ _ (beq_no h), if_neg h]
    by_cases h1 : k % 2 = 1
    · rw [rec_true _ _ (beq_yes h1), if_pos h1]
    · rw [rec_false _ _ (beq_no h1), if_neg h1]
theorem put_node (x : α) (l r : T α) (v : Option α) (k : Nat) : put x (.node l v r) k = if k = 0 then .node l (some x) r else if k % 2 = 1 then .node (put x l (k / 2)) v r else .node l v (put x r ((k - 1) / 2)) := by
  show @Bool.rec (fun _ => T α) (@Bool.rec (fun _ => T α) (.node l v (put x r ((k - 1) / 2))) (.node (put x l (k / 2)) v r) (Nat.beq (k % 2) 1)) (.node l (some x) r) (Nat.beq k 0) = _
  by_cases h : k = 0
  · rw [rec_true _ _ (beq_yes h), if_pos h]
  · rw [rec_false _ _ (beq_no h), if_neg h]
    by_cases h1 : k % 2 = 1
    · rw [rec_true _ _ (beq_yes h1), if_pos h1]
    · rw [rec_false _ _ (beq_no h1), if_neg h1]
theorem one_succ (x : α) (f k : Nat) : one x (f + 1) k = if k = 0 then .node .leaf (some x) .leaf else if k % 2 = 1 then .node (one x f (k / 2)) none .leaf else .node .leaf none (one x f ((k - 1) / 2)) := by
  show @Bool.rec (fun _ => T α) (@Bool.rec (fun _ => T α) (.node .leaf none (one x f ((k - 1) / 2))) (.node (one x f (k / 2)) none .leaf) (Nat.beq (k % 2) 1)) (.node .leaf (some x) .leaf) (Nat.beq k 0) = _
  by_cases h : k = 0
  · rw [rec_true _ _ (beq_yes h), if_pos h]
  · rw [rec_false _ _ (beq_no h), if_neg h]
    by_cases h1 : k % 2 = 1
    · rw [rec_true _ _ (beq_yes h1), if_pos h1]
    · rw [rec_false _ _ (beq_no h1), if_neg h1]
theorem look_one (x : α) : ∀ (f k j : Nat), k ≤ f → look (one x f k) j = if j = k then some x else none := by
  intro f
  induction f with
  | zero =>
    intro k j hk
    have : k = 0 := by omega
    subst this
    show look (.node .leaf (some x) .leaf) j = _
    rw [look_node]
    by_cases h : j = 0
    · simp [h]
    · simp [h, look_leaf]
  | succ f ih =>
    intro k j hk
    rw [one_succ]
    by_cases h : k = 0
    · rw [if_pos h, look_node]
      by_cases h' : j = 0
      · simp [h', h]
      · rw [if_neg h', if_neg (show ¬ j = k by omega)]; simp [look_leaf]
    · rw [if_neg h]
      by_cases h1 : k % 2 = 1
      · rw [if_pos h1, look_node]
        by_cases h' : j = 0
        · rw [if_pos h', if_neg (by omega)]
        · rw [if_neg h', ih _ _ (by omega)]
          by_cases h2 : j % 2 = 1
          · rw [if_pos h2]
            by_cases e : j = k
            · rw [if_pos e, if_pos (by omega)]
            · rw [if_neg e, if_neg (by omega)]
          · rw [if_neg h2, look_leaf, if_neg (by omega)]
      · rw [if_neg h1, look_node]
        by_cases h' : j = 0
        · rw [if_pos h', if_neg (by omega)]
        · rw [if_neg h', ih _ _ (by omega)]
          by_cases h2 : j % 2 = 1
          · rw [if_pos h2, look_leaf, if_neg (by omega)]
          · rw [if_neg h2]
            by_cases e : j = k
            · rw [if_pos e, if_pos (by omega)]
            · rw [if_neg e, if_neg (by omega)]
theorem look_put (x : α) (t : T α) : ∀ (k j : Nat), look (put x t k) j = if j = k then some x else look t j := by
  induction t with
  | leaf => intro k j; show look (one x k k) j = _; rw [look_one x k k j (Nat.le_refl _), look_leaf]
  | node l v r ihl ihr =>
    intro k j
    rw [put_node]
    by_cases h : k = 0
    · rw [if_pos h, look_node, look_node]
      by_cases h' : j = 0
      · rw [if_pos h', if_pos (by omega)]
      · rw [if_neg h', if_neg h', if_neg (show ¬ j = k by omega)]
    · rw [if_neg h]
      by_cases h1 : k % 2 = 1
      · rw [if_pos h1, look_node, look_node]
        by_cases h' : j = 0
        · rw [if_pos h', if_pos h', if_neg (by omega)]
        · rw [if_neg h', if_neg h']
          by_cases h2 : j % 2 = 1
          · rw [if_pos h2, if_pos h2, ihl]
            by_cases e : j = k
            · rw [if_pos e, if_pos (by omega)]
            · rw [if_neg e, if_neg (by omega)]
          · rw [if_neg h2, if_neg h2, if_neg (by omega)]
      · rw [if_neg h1, look_node, look_node]
        by_cases h' : j = 0
        · rw [if_pos h', if_pos h', if_neg (by omega)]
        · rw [if_neg h', if_neg h']
          by_cases h2 : j % 2 = 1
          · rw [if_pos h2, if_pos h2, if_neg (by omega)]
          · rw [if_neg h2, if_neg h2, ihr]
            by_cases e : j = k
            · rw [if_pos e, if_pos (by omega)]
            · rw [if_neg e, if_neg (by omega)]
theorem look_put_same (x : α) (t : T α) (k : Nat) : look (put x t k) k = some x := by rw [look_put, if_pos rfl]
theorem look_put_ne (x : α) (t : T α) {k j : Nat} (h : j ≠ k) : look (put x t k) j = look t j := by rw [look_put, if_neg h]
/-- A list as a trie. -/
noncomputable def ofL (l : List α) (k : Nat) (t : T α) : T α := @List.rec α (fun _ => Nat → T α → T α) (fun _ t => t) (fun x _ ih k t => ih (Nat.succ k) (put x t k)) l k t
theorem ofL_cons (x : α) (l : List α) (k : Nat) (t : T α) : ofL (x :: l) k t = ofL l (k + 1) (put x t k) := rfl
theorem look_ofL (l : List α) : ∀ (k : Nat) (t : T α) (j : Nat), look (ofL l k t) j = if k ≤ j ∧ j < k + l.length then l[j - k]? else look t j := by
  induction l with
  | nil => intro k t j; rw [if_neg (by intro h; simp at h; omega)]; rfl
  | cons x l ih =>
    intro k t j
    rw [ofL_cons, ih, look_put]
    by_cases h : k + 1 ≤ j ∧ j < k + 1 + l.length
    · rw [if_pos h, if_pos (by simp; omega)]
      obtain ⟨m, hm⟩ : ∃ m, j - k = m + 1 := ⟨j - k - 1, by omega⟩
      rw [hm, List.getElem?_cons_succ]
      exact congrArg _ (by omega)
    · rw [if_neg h]
      by_cases e : j = k
      · subst e; rw [if_pos rfl, if_pos (by simp)]; simp
      · rw [if_neg e, if_neg (by simp; omega)]
theorem look_ofL0 (l : List α) (j : Nat) : look (ofL l 0 .leaf) j = l[j]? := by
  rw [look_ofL]
  by_cases h : j < l.length
  · rw [if_pos (by omega)]
    simp
  · rw [if_neg (by omega), look_leaf, List.getElem?_eq_none (by omega)]
end T
end Ev
end

section
namespace Ev
open Go
/-- Values of the plain run: memory is named by numbers of its own. -/
inductive AV where
  | bool (b : Bool)
  | int (k : IntKind) (n : Int)
  | str (s : List Nat)
  | ptr (a : Option (Nat × Nat))
  | glob (g off : Nat)
  | slice (a : Option (Nat × Nat)) (len : Nat) (sz : Nat) (cap : Option Nat)
  | map (r : Option Nat)
  | func (fn : Fn) (first captured : List AV)
  | nilFunc
  | iface (t : TypeId) (v : AV)
  | nilIface
  | agg (cs : List AV)
  | tuple (vs : List AV)
  | sym (n : Nat)

inductive AObj where
  | row (cs : List AV) (g : Option Nat)
  | map (es : List (AV × AV × Nat)) (clock : Nat)
  | grp (latest : Nat)
  | siter (s : List Nat) (pos : Nat)
  | miter (m : Option Nat) (since : Nat) (seen : List Nat) (stepped : Nat)
  | dead

/-- What a part of the plain run has touched of what was there: names, and whether written. -/
structure Foot where
  keys : List Nat
  mark : T Bool
def Foot.empty : Foot := ⟨[], .leaf⟩
noncomputable def Foot.add (F : Foot) (x : Nat) (wr : Bool) : Foot :=
  @Option.rec Bool (fun _ => Foot) ⟨x :: F.keys, F.mark.put wr x⟩ (fun b => @Bool.rec (fun _ => Foot) (@Bool.rec (fun _ => Foot) F ⟨F.keys, F.mark.put true x⟩ wr) F b) (F.mark.look x)
def Foot.has (F : Foot) (x : Nat) : Prop := F.mark.look x ≠ none
def Foot.wrote (F : Foot) (x : Nat) : Prop := F.mark.look x = some true
theorem Foot.wrote_has {F : Foot} {x : Nat} (h : F.wrote x) : F.has x := by unfold Foot.wrote at h; unfold Foot.has; rw [h]; simp
def Foot.ok (F : Foot) : Prop := ∀ x, F.has x → x ∈ F.keys
theorem Foot.look_empty (x : Nat) : Foot.empty.mark.look x = none := rfl
theorem Foot.add_eq (F : Foot) (x : Nat) (wr : Bool) : F.add x wr = match F.mark.look x with
    | none => ⟨x :: F.keys, F.mark.put wr x⟩
    | some true => F
    | some false => if wr then ⟨F.keys, F.mark.put true x⟩ else F := by
  unfold Foot.add
  cases F.mark.look x with
  | none => rfl
  | some b => cases b <;> cases wr <;> rfl
theorem Foot.look_add (F : Foot) (x : Nat) (wr : Bool) (y : Nat) : (F.add x wr).mark.look y = if y = x then some (wr || (F.mark.look x == some true)) else F.mark.look y := by
  rw [Foot.add_eq]
  cases h : F.mark.look x with
  | none => simp [T.look_put]
  | some b =>
    cases b with
    | true =>
      by_cases e : y = x
      · subst e; simp [h]
      · simp [e]
    | false =>
      cases wr with
      | true => simp [T.look_put]
      | false =>
        by_cases e : y = x
        · subst e; simp [h]
        · simp [e]
theorem Foot.has_add {F : Foot} {x : Nat} {wr : Bool} {y : Nat} : (F.add x wr).has y ↔ y = x ∨ F.has y := by
  unfold Foot.has; rw [Foot.look_add]
  by_cases e : y = x <;> simp [e]
theorem Foot.wrote_add {F : Foot} {x : Nat} {wr : Bool} {y : Nat} : (F.add x wr).wrote y ↔ (y = x ∧ wr = true) ∨ F.wrote y := by
  unfold Foot.wrote; rw [Foot.look_add]
  by_cases e : y = x
  · subst e; cases wr <;> simp
  · simp [e]
theorem Foot.ok_add {F : Foot} (h : F.ok) (x : Nat) (wr : Bool) : (F.add x wr).ok := by
  intro y hy
  rw [Foot.add_eq]
  rcases Foot.has_add.1 hy with rfl | hy
  · cases e : F.mark.look y with
    | none => simp
    | some b =>
      have : y ∈ F.keys := h y (by unfold Foot.has; rw [e]; simp)
      cases b <;> cases wr <;> simpa using this
  · have := h y hy
    cases e : F.mark.look x with
    | none => simp [this]
    | some b => cases b <;> cases wr <;> simpa using this
/-- Touching what was there before number b. -/
noncomputable def Foot.touch (F : Foot) (b x : Nat) (wr : Bool) : Foot := @Bool.rec (fun _ => Foot) F (F.add x wr) (Nat.blt x b)
theorem blt_yes {a b : Nat} (h : a < b) : Nat.blt a b = true := by rw [Nat.blt_eq]; exact h
theorem blt_no {a b : Nat} (h : ¬ a < b) : Nat.blt a b = false := by
  cases e : Nat.blt a b with
  | false => rfl
  | true => exact absurd (Nat.blt_eq ▸ e : a < b) h
theorem Foot.touch_eq (F : Foot) (b x : Nat) (wr : Bool) : F.touch b x wr = if x < b then F.add x wr else F := by
  unfold Foot.touch
  by_cases h : x < b
  · rw [rec_true _ _ (blt_yes h), if_pos h]
  · rw [rec_false _ _ (blt_no h), if_neg h]
theorem Foot.has_touch {F : Foot} {b x : Nat} {wr : Bool} {y : Nat} : (F.touch b x wr).has y ↔ (y = x ∧ x < b) ∨ F.has y := by
  rw [Foot.touch_eq]; split <;> simp [Foot.has_add, *]
theorem Foot.wrote_touch {F : Foot} {b x : Nat} {wr : Bool} {y : Nat} : (F.touch b x wr).wrote y ↔ (y = x ∧ x < b ∧ wr = true) ∨ F.wrote y := by
  rw [Foot.touch_eq]; split <;> simp [Foot.wrote_add, *]
theorem Foot.ok_touch {F : Foot} (h : F.ok) (b x : Nat) (wr : Bool) : (F.touch b x wr).ok := by
  rw [Foot.touch_eq]; split
  · exact Foot.ok_add h _ _
  · exact h
/-- A part's touches, told of the whole. -/
noncomputable def Foot.mergeL (b : Nat) (m : T Bool) (l : List Nat) (F : Foot) : Foot :=
  @List.rec Nat (fun _ => Foot → Foot) (fun F => F) (fun x _ ih F => ih (F.touch b x (@Option.rec Bool (fun _ => Bool) true (fun c => c) (m.look x)))) l F
noncomputable def Foot.merge (F : Foot) (b : Nat) (F1 : Foot) : Foot := @Bool.rec (fun _ => Foot) (Foot.mergeL b F1.mark F1.keys F) F (Nat.beq b 0)
theorem Foot.mergeL_spec (b : Nat) (m : T Bool) (l : List Nat) : ∀ (F : Foot), (∀ y, (Foot.mergeL b m l F).has y ↔ (y ∈ l ∧ y < b) ∨ F.has y) ∧ (∀ y, (Foot.mergeL b m l F).wrote y ↔ (y ∈ l ∧ y < b ∧ m.look y ≠ some false) ∨ F.wrote y) ∧ (F.ok → (Foot.mergeL b m l F).ok) := by
  induction l with
  | nil => intro F; exact ⟨fun y => by show F.has y ↔ _; simp, fun y => by show F.wrote y ↔ _; simp, fun h => h⟩
  | cons x l ih =>
    intro F
    have e : Foot.mergeL b m (x :: l) F = Foot.mergeL b m l (F.touch b x (@Option.rec Bool (fun _ => Bool) true (fun c => c) (m.look x))) := rfl
    obtain ⟨h1, h2, h3⟩ := ih (F.touch b x (@Option.rec Bool (fun _ => Bool) true (fun c => c) (m.look x)))
    rw [e]
    refine ⟨fun y => ?_, fun y => ?_, fun h => h3 (Foot.ok_touch h _ _ _)⟩
    · rw [h1, Foot.has_touch]
      constructor
      · rintro (⟨a, b⟩ | ⟨rfl, b⟩ | c)
        · exact .inl ⟨by simp [a], b⟩
        · exact .inl ⟨by simp, b⟩
        · exact .inr c
      · rintro (⟨a, b⟩ | c)
        · rcases List.mem_cons.1 a with rfl | a
          · exact .inr (.inl ⟨rfl, b⟩)
          · exact .inl ⟨a, b⟩
        · exact .inr (.inr c)
    · rw [h2, Foot.wrote_touch]
      have hq : ∀ z, (@Option.rec Bool (fun _ => Bool) true (fun c => c) (m.look z)) = true ↔ m.look z ≠ some false := by
        intro z
        cases h : m.look z with
        | none => simp
        | some c => cases c <;> simp
      rw [hq]
      constructor
      · rintro (⟨a, b, c⟩ | ⟨rfl, b, c⟩ | c)
        · exact .inl ⟨by simp [a], b, c⟩
        · exact .inl ⟨by simp, b, c⟩
        · exact .inr c
      · rintro (⟨a, b, c⟩ | c)
        · rcases List.mem_cons.1 a with rfl | a
          · exact .inr (.inl ⟨rfl, b, c⟩)
          · exact .inl ⟨a, b, c⟩
        · exact .inr (.inr c)
theorem Foot.merge_has {F F1 : Foot} {b : Nat} (h1 : F1.ok) {y : Nat} (hy : F1.has y) (hb : y < b) : (F.merge b F1).has y := by
  unfold Foot.merge
  rw [rec_false _ _ (beq_no (by omega))]
  exact ((Foot.mergeL_spec b _ _ F).1 y).2 (.inl ⟨h1 y hy, hb⟩)
theorem Foot.merge_wrote {F F1 : Foot} {b : Nat} (h1 : F1.ok) {y : Nat} (hy : F1.wrote y) (hb : y < b) : (F.merge b F1).wrote y := by
  unfold Foot.merge
  rw [rec_false _ _ (beq_no (by omega))]
  exact ((Foot.mergeL_spec b _ _ F).2.1 y).2 (.inl ⟨h1 y (Foot.wrote_has hy), hb, by unfold Foot.wrote at hy; rw [hy]; simp⟩)
theorem Foot.has_merge {F F1 : Foot} {b : Nat} {y : Nat} (hy : (F.merge b F1).has y) : y < b ∨ F.has y := by
  unfold Foot.merge at hy
  by_cases e : b = 0
  · rw [rec_true _ _ (beq_yes e)] at hy; exact .inr hy
  · rw [rec_false _ _ (beq_no e)] at hy
    rcases ((Foot.mergeL_spec b _ _ F).1 y).1 hy with ⟨_, h⟩ | h
    · exact .inl h
    · exact .inr h
theorem Foot.merge_keeps {F F1 : Foot} {b : Nat} {y : Nat} : (F.has y → (F.merge b F1).has y) ∧ (F.wrote y → (F.merge b F1).wrote y) := by
  unfold Foot.merge
  by_cases e : b = 0
  · rw [rec_true _ _ (beq_yes e)]; exact ⟨id, id⟩
  · rw [rec_false _ _ (beq_no e)]
    exact ⟨fun h => ((Foot.mergeL_spec b _ _ F).1 y).2 (.inr h), fun h => ((Foot.mergeL_spec b _ _ F).2.1 y).2 (.inr h)⟩
theorem Foot.merge_ok {F F1 : Foot} {b : Nat} (h : F.ok) : (F.merge b F1).ok := by
  unfold Foot.merge
  by_cases e : b = 0
  · rw [rec_true _ _ (beq_yes e)]; exact h
  · rw [rec_false _ _ (beq_no e)]; exact (Foot.mergeL_spec b _ _ F).2.2 h

/-- A plain program over named memory. -/
inductive E where
  | pure (v : AV)
  | fail (n : Nat)
  | get (x : Nat) (k : AObj → E)
  | set (x : Nat) (o : AObj) (k : E)
  | new (o : AObj) (k : Nat → E)
  | choose (n : Nat) (k : Nat → E)
  | scope (e : E) (k : AV → Nat → Nat → Foot → Bool → E)
abbrev Res := AV × T AObj × Nat × Foot
abbrev Outs := List (Option Res)
/-- All branches 0 .. n. -/
noncomputable def upTo (n : Nat) (f : Nat → Outs) : Outs := @Nat.rec (fun _ => Outs) (f 0) (fun m r => r ++ f (Nat.succ m)) n
noncomputable def eachOf (l : Outs) (f : Res → Outs) : Outs := @List.rec (Option Res) (fun _ => Outs) [] (fun r _ ih => @Option.rec Res (fun _ => Outs) [none] (fun r => f r ++ ih) r) l
def many : Outs → Bool
  | _ :: _ :: _ => true
  | _ => false
noncomputable def E.run (e : E) : T AObj → Nat → Nat → Foot → Outs :=
  @E.rec (fun _ => T AObj → Nat → Nat → Foot → Outs)
    (fun v h c _ F => [some (v, h, c, F)])
    (fun _ _ _ _ _ => [none])
    (fun x _ ih h c b F => @Bool.rec (fun _ => Outs) [none] (@Option.rec AObj (fun _ => Outs) [none] (fun o => ih o h c b (F.touch b x false)) (h.look x)) (Nat.blt x c))
    (fun x o _ ih h c b F => @Bool.rec (fun _ => Outs) [none] (ih (h.put o x) c b (F.touch b x true)) (Nat.blt x c))
    (fun o _ ih h c b F => ih c (h.put o c) (Nat.succ c) b F)
    (fun n _ ih h c b F => upTo n fun i => ih i h c b F)
    (fun _ _ ihe ihk h c b F => (fun l => eachOf l fun r => ihk r.1 c r.2.2.1 r.2.2.2 (many l) r.2.1 r.2.2.1 b (F.merge b r.2.2.2)) (ihe h c c Foot.empty)) e
theorem run_pure (v : AV) (h : T AObj) (c b : Nat) (F : Foot) : (E.pure v).run h c b F = [some (v, h, c, F)] := rfl
theorem run_fail (n : Nat) (h : T AObj) (c b : Nat) (F : Foot) : (E.fail n).run h c b F = [none] := rfl
theorem run_get {x : Nat} {k : AObj → E} {h : T AObj} {c b : Nat} {F : Foot} : (E.get x k).run h c b F = if x < c then (match h.look x with | none => [none] | some o => (k o).run h c b (F.touch b x false)) else [none] := by
  show @Bool.rec (fun _ => Outs) [none] (@Option.rec AObj (fun _ => Outs) [none] (fun o => (k o).run h c b (F.touch b x false)) (h.look x)) (Nat.blt x c) = _
  by_cases hx : x < c
  · rw [rec_true _ _ (blt_yes hx), if_pos hx]
    cases e : h.look x <;> rfl
  · rw [rec_false _ _ (blt_no hx), if_neg hx]
theorem run_set {x : Nat} {o : AObj} {k : E} {h : T AObj} {c b : Nat} {F : Foot} : (E.set x o k).run h c b F = if x < c then k.run (h.put o x) c b (F.touch b x true) else [none] := by
  show @Bool.rec (fun _ => Outs) [none] (k.run (h.put o x) c b (F.touch b x true)) (Nat.blt x c) = _
  by_cases hx : x < c
  · rw [rec_true _ _ (blt_yes hx), if_pos hx]
  · rw [rec_false _ _ (blt_no hx), if_neg hx]
theorem run_new {o : AObj} {k : Nat → E} {h : T AObj} {c b : Nat} {F : Foot} : (E.new o k).run h c b F = (k c).run (h.put o c) (c + 1) b F := rfl
theorem run_choose {n : Nat} {k : Nat → E} {h : T AObj} {c b : Nat} {F : Foot} : (E.choose n k).run h c b F = upTo n fun i => (k i).run h c b F := rfl
theorem run_scope {e : E} {k : AV → Nat → Nat → Foot → Bool → E} {h : T AObj} {c b : Nat} {F : Foot} : (E.scope e k).run h c b F = eachOf (e.run h c c Foot.empty) fun r => (k r.1 c r.2.2.1 r.2.2.2 (many (e.run h c c Foot.empty))).run r.2.1 r.2.2.1 b (F.merge b r.2.2.2) := rfl
theorem mem_upTo {n : Nat} {f : Nat → Outs} {r : Option Res} : r ∈ upTo n f ↔ ∃ i, i ≤ n ∧ r ∈ f i := by
  induction n with
  | zero =>
    show r ∈ f 0 ↔ _
    exact ⟨fun h => ⟨0, Nat.le_refl _, h⟩, fun ⟨i, hi, h⟩ => by rw [show i = 0 by omega] at h; exact h⟩
  | succ n ih =>
    show r ∈ upTo n f ++ f (n + 1) ↔ _
    rw [List.mem_append, ih]
    constructor
    · rintro (⟨i, hi, h⟩ | h)
      · exact ⟨i, by omega, h⟩
      · exact ⟨n + 1, Nat.le_refl _, h⟩
    · rintro ⟨i, hi, h⟩
      by_cases e : i = n + 1
      · exact .inr (e ▸ h)
      · exact .inl ⟨i, by omega, h⟩
/-- All outs are there, and as wished. -/
def All (Φ : Res → Prop) (l : Outs) : Prop := ∀ r ∈ l, ∃ q, r = some q ∧ Φ q
theorem All.nil {Φ : Res → Prop} : All Φ [] := fun _ h => by cases h
theorem All.none {Φ : Res → Prop} (h : All Φ [none]) : False := by obtain ⟨q, e, _⟩ := h _ (List.mem_singleton.2 rfl); cases e
theorem All.append {Φ : Res → Prop} {l m : Outs} : All Φ (l ++ m) ↔ All Φ l ∧ All Φ m :=
  ⟨fun h => ⟨fun r hr => h r (List.mem_append.2 (.inl hr)), fun r hr => h r (List.mem_append.2 (.inr hr))⟩, fun ⟨h1, h2⟩ r hr => (List.mem_append.1 hr).elim (h1 r) (h2 r)⟩
theorem All.mono {Φ Ψ : Res → Prop} {l : Outs} (h : All Φ l) (hq : ∀ q, Φ q → Ψ q) : All Ψ l := fun r hr => let ⟨q, e, p⟩ := h r hr; ⟨q, e, hq q p⟩
theorem All.upTo {Φ : Res → Prop} {n : Nat} {f : Nat → Outs} : All Φ (upTo n f) ↔ ∀ i, i ≤ n → All Φ (f i) :=
  ⟨fun h i hi r hr => h r (mem_upTo.2 ⟨i, hi, hr⟩), fun h r hr => let ⟨i, hi, hr⟩ := mem_upTo.1 hr; h i hi r hr⟩
theorem eachOf_nil (f : Res → Outs) : eachOf [] f = [] := rfl
theorem eachOf_none (l : Outs) (f : Res → Outs) : eachOf (none :: l) f = [none] := rfl
theorem eachOf_some (r : Res) (l : Outs) (f : Res → Outs) : eachOf (some r :: l) f = f r ++ eachOf l f := rfl
theorem All.eachOf {Φ : Res → Prop} {l : Outs} {f : Res → Outs} : All Φ (eachOf l f) ↔ All (fun r => All Φ (f r)) l := by
  induction l with
  | nil => exact ⟨fun _ => All.nil, fun _ => All.nil⟩
  | cons r l ih =>
    cases r with
    | none => exact ⟨fun h => (All.none (by rwa [eachOf_none] at h)).elim, fun h => by obtain ⟨q, e, _⟩ := h _ (List.mem_cons_self ..); cases e⟩
    | some r =>
      rw [eachOf_some, All.append, ih]
      exact ⟨fun ⟨h1, h2⟩ q hq => by
        rcases List.mem_cons.1 hq with rfl | hq
        · exact ⟨r, rfl, h1⟩
        · exact h2 q hq, fun h => ⟨by obtain ⟨q, e, hq⟩ := h _ (List.mem_cons_self ..); cases e; exact hq, fun q hq => h q (List.mem_cons_of_mem _ hq)⟩⟩
theorem run_ne (e : E) : ∀ (h : T AObj) (c b : Nat) (F : Foot), e.run h c b F ≠ [] := by
  induction e with
  | pure v => intro h c b F; rw [run_pure]; simp
  | fail n => intro h c b F; rw [run_fail]; simp
  | get x k ih =>
    intro h c b F; rw [run_get]
    split
    · split
      · simp
      · exact ih _ _ _ _ _
    · simp
  | set x o k ih => intro h c b F; rw [run_set]; split <;> first | exact ih _ _ _ _ | simp
  | new o k ih => intro h c b F; rw [run_new]; exact ih _ _ _ _ _
  | choose n k ih =>
    intro h c b F; rw [run_choose]
    intro e
    obtain ⟨r, hr⟩ : ∃ r, r ∈ (k 0).run h c b F := List.exists_mem_of_ne_nil _ (ih 0 h c b F)
    have : r ∈ upTo n fun i => (k i).run h c b F := mem_upTo.2 ⟨0, Nat.zero_le _, hr⟩
    rw [e] at this; cases this
  | scope e k ihe ihk =>
    intro h c b F; rw [run_scope]
    have hne := ihe h c c Foot.empty
    generalize many (e.run h c c Foot.empty) = mb
    cases hl : e.run h c c Foot.empty with
    | nil => exact absurd hl hne
    | cons r l =>
      cases r with
      | none => rw [eachOf_none]; simp
      | some r =>
        rw [eachOf_some]
        intro e
        exact ihk _ _ _ _ _ _ _ _ _ (List.append_eq_nil_iff.1 e).1
/-- Every out of a whole part is gone on with. -/
theorem All.some_of {Φ : Res → Prop} {l : Outs} (h : All Φ l) (hn : l ≠ []) : ∃ q, some q ∈ l ∧ Φ q := by
  obtain ⟨r, hr⟩ := List.exists_mem_of_ne_nil _ hn
  obtain ⟨q, rfl, hq⟩ := h r hr
  exact ⟨q, hr, hq⟩

/-- What a part keeps. -/
structure Keeps (h : T AObj) (c b : Nat) (F : Foot) (q : Res) : Prop where
  up : c ≤ q.2.2.1
  ok : q.2.2.2.ok
  has : ∀ x, F.has x → q.2.2.2.has x
  wrote : ∀ x, F.wrote x → q.2.2.2.wrote x
  low : ∀ x, q.2.2.2.has x → F.has x ∨ x < b
  same : ∀ x, ¬ q.2.2.2.wrote x → ¬ (b ≤ x ∧ x < q.2.2.1) → q.2.1.look x = h.look x
theorem E.keeps (e : E) : ∀ (h : T AObj) (c b : Nat) (F : Foot) (q : Res), some q ∈ e.run h c b F → b ≤ c → F.ok → Keeps h c b F q := by
  induction e with
  | pure v0 =>
    intro h c b F q hr hb hF
    rw [run_pure] at hr
    obtain rfl : q = (v0, h, c, F) := by simpa using hr
    exact ⟨Nat.le_refl _, hF, fun _ h => h, fun _ h => h, fun _ h => .inl h, fun _ _ _ => rfl⟩
  | fail n => intro h c b F q hr; rw [run_fail] at hr; simp at hr
  | get x k ih =>
    intro h c b F q hr hb hF
    rw [run_get] at hr
    split at hr
    · split at hr
      · simp at hr
      · rename_i o ho
        have i := ih o h c b _ q hr hb (Foot.ok_touch hF _ _ _)
        refine ⟨i.up, i.ok, fun y hy => i.has y (Foot.has_touch.2 (.inr hy)), fun y hy => i.wrote y (Foot.wrote_touch.2 (.inr hy)), fun y hy => ?_, i.same⟩
        rcases i.low y hy with h | h
        · rcases Foot.has_touch.1 h with ⟨rfl, h⟩ | h
          · exact .inr h
          · exact .inl h
        · exact .inr h
    · simp at hr
  | set x o k ih =>
    intro h c b F q hr hb hF
    rw [run_set] at hr
    split at hr
    · rename_i hx
      have i := ih _ c b _ q hr hb (Foot.ok_touch hF _ _ _)
      refine ⟨i.up, i.ok, fun y hy => i.has y (Foot.has_touch.2 (.inr hy)), fun y hy => i.wrote y (Foot.wrote_touch.2 (.inr hy)), fun y hy => ?_, fun y hy hy' => ?_⟩
      · rcases i.low y hy with h | h
        · rcases Foot.has_touch.1 h with ⟨rfl, h⟩ | h
          · exact .inr h
          · exact .inl h
        · exact .inr h
      · rw [i.same y hy hy', T.look_put_ne]
        rintro rfl
        have := i.up
        by_cases e : y < b
        · exact hy (i.wrote y (Foot.wrote_touch.2 (.inl ⟨rfl, e, rfl⟩)))
        · exact hy' ⟨by omega, by omega⟩
    · simp at hr
  | new o k ih =>
    intro h c b F q hr hb hF
    rw [run_new] at hr
    have i := ih c _ (c + 1) b F q hr (by omega) hF
    have := i.up
    refine ⟨by omega, i.ok, i.has, i.wrote, i.low, fun y hy hy' => ?_⟩
    rw [i.same y hy hy', T.look_put_ne]
    rintro rfl
    exact hy' ⟨by omega, by omega⟩
  | choose n k ih =>
    intro h c b F q hr hb hF
    rw [run_choose] at hr
    obtain ⟨i, _, hr⟩ := mem_upTo.1 hr
    exact ih i h c b F q hr hb hF
  | scope e k ihe ihk =>
    intro h c b F q hr hb hF
    rw [run_scope] at hr
    generalize many (e.run h c c Foot.empty) = mb at hr
    have key : ∀ l : Outs, (∀ r ∈ l, r ∈ e.run h c c Foot.empty) → some q ∈ eachOf l (fun r => (k r.1 c r.2.2.1 r.2.2.2 mb).run r.2.1 r.2.2.1 b (F.merge b r.2.2.2)) → ∃ r, some r ∈ e.run h c c Foot.empty ∧ some q ∈ (k r.1 c r.2.2.1 r.2.2.2 mb).run r.2.1 r.2.2.1 b (F.merge b r.2.2.2) := by
      intro l
      induction l with
      | nil => intro _ hq; cases hq
      | cons r l ih =>
        intro hl hq
        cases r with
        | none => rw [eachOf_none] at hq; simp at hq
        | some r =>
          rw [eachOf_some] at hq
          rcases List.mem_append.1 hq with hq | hq
          · exact ⟨r, hl _ (List.mem_cons_self ..), hq⟩
          · exact ih (fun r hr => hl r (List.mem_cons_of_mem _ hr)) hq
    obtain ⟨r, hr1, hr2⟩ := key _ (fun _ h => h) hr
    obtain ⟨v1, h1, c1, F1⟩ := r
    have i := ihe h c c Foot.empty _ hr1 (Nat.le_refl _) (fun x hx => absurd (Foot.look_empty x) hx)
    have iup : c ≤ c1 := i.up
    have j := ihk _ _ _ _ _ _ _ b _ q hr2 (by show b ≤ c1; omega) (Foot.merge_ok hF)
    have jup : c1 ≤ q.2.2.1 := j.up
    refine ⟨by omega, j.ok, fun y hy => j.has y (Foot.merge_keeps.1 hy), fun y hy => j.wrote y (Foot.merge_keeps.2 hy), fun y hy => ?_, fun y hy hy' => ?_⟩
    · rcases j.low y hy with h | h
      · rcases Foot.has_merge h with h | h
        · exact .inr h
        · exact .inl h
      · exact .inr h
    · have f1 : F1.has y → y < c := fun hx => by
        rcases i.low y hx with h | h
        · exact absurd (Foot.look_empty y) h
        · exact h
      rw [j.same y hy hy']
      refine i.same y (fun hw => ?_) (fun hw => hy' ⟨by omega, Nat.lt_of_lt_of_le hw.2 jup⟩)
      by_cases e : y < b
      · exact hy (j.wrote y (Foot.merge_wrote i.ok hw e))
      · have := f1 (Foot.wrote_has hw)
        exact hy' ⟨by omega, by omega⟩
/-- An out over another memory that agrees. -/
structure Like (b : Nat) (h2 : T AObj) (q p : Res) : Prop where
  v : p.1 = q.1
  c : p.2.2.1 = q.2.2.1
  F : p.2.2.2 = q.2.2.2
  has : ∀ x, q.2.2.2.has x → p.2.1.look x = q.2.1.look x
  mid : ∀ x, b ≤ x → x < q.2.2.1 → p.2.1.look x = q.2.1.look x
  same : ∀ x, ¬ q.2.2.2.wrote x → ¬ (b ≤ x ∧ x < q.2.2.1) → p.2.1.look x = h2.look x
inductive All2 (R : Res → Res → Prop) : Outs → Outs → Prop
  | nil : All2 R [] []
  | cons {q p : Res} {l m : Outs} (h : R q p) (t : All2 R l m) : All2 R (some q :: l) (some p :: m)
theorem All2.append {R : Res → Res → Prop} {a b c d : Outs} (h : All2 R a b) (h' : All2 R c d) : All2 R (a ++ c) (b ++ d) := by
  induction h with
  | nil => exact h'
  | cons h _ ih => exact .cons h ih
theorem All2.mono {R S : Res → Res → Prop} {a b : Outs} (h : All2 R a b) (hq : ∀ q p, R q p → S q p) : All2 S a b := by
  induction h with
  | nil => exact .nil
  | cons h _ ih => exact .cons (hq _ _ h) ih
theorem All2.many {R : Res → Res → Prop} {a b : Outs} (h : All2 R a b) : many a = many b := by
  cases h with
  | nil => rfl
  | cons _ t => cases t <;> rfl
theorem All2.left {R : Res → Res → Prop} {a b : Outs} (h : All2 R a b) {p : Option Res} (hp : p ∈ b) : ∃ q p', p = some p' ∧ some q ∈ a ∧ R q p' := by
  induction h with
  | nil => cases hp
  | cons h t ih =>
    rcases List.mem_cons.1 hp with rfl | hp
    · exact ⟨_, _, rfl, List.mem_cons_self .., h⟩
    · obtain ⟨q, p', e, hq, hr⟩ := ih hp
      exact ⟨q, p', e, List.mem_cons_of_mem _ hq, hr⟩
theorem All2.upTo {R : Res → Res → Prop} {n : Nat} {f g : Nat → Outs} (h : ∀ i, i ≤ n → All2 R (f i) (g i)) : All2 R (upTo n f) (upTo n g) := by
  induction n with
  | zero => exact h 0 (Nat.le_refl _)
  | succ n ih => exact (ih fun i hi => h i (by omega)).append (h (n + 1) (Nat.le_refl _))
theorem All2.eachOf {R S : Res → Res → Prop} {a b : Outs} {f g : Res → Outs} (h : All2 R a b) (hf : ∀ q p, some q ∈ a → R q p → All2 S (f q) (g p)) : All2 S (eachOf a f) (eachOf b g) := by
  induction h with
  | nil => exact .nil
  | cons h t ih =>
    rw [eachOf_some, eachOf_some]
    exact (hf _ _ (List.mem_cons_self ..) h).append (ih fun q p hq hr => hf q p (List.mem_cons_of_mem _ hq) hr)
/-- A plain program's outs hang on what they touch alone. -/
theorem E.frame (e : E) : ∀ (h : T AObj) (c b : Nat) (F : Foot), All (fun _ => True) (e.run h c b F) → b ≤ c → F.ok →
    ∀ h2 : T AObj, (∀ q, some q ∈ e.run h c b F → ∀ x, q.2.2.2.has x → h2.look x = h.look x) → (∀ x, b ≤ x → x < c → h2.look x = h.look x) →
      All2 (Like b h2) (e.run h c b F) (e.run h2 c b F) := by
  induction e with
  | pure v0 =>
    intro h c b F hr hb hF h2 a1 a2
    rw [run_pure, run_pure]
    exact .cons ⟨rfl, rfl, rfl, a1 (v0, h, c, F) (by rw [run_pure]; simp), a2, fun _ _ _ => rfl⟩ .nil
  | fail n => intro h c b F hr; rw [run_fail] at hr; exact (All.none hr).elim
  | get x k ih =>
    intro h c b F hr hb hF h2 a1 a2
    rw [run_get] at hr a1 ⊢
    rw [run_get]
    by_cases hx : x < c
    · rw [if_pos hx] at hr a1 ⊢
      rw [if_pos hx]
      cases ho : h.look x with
      | none => rw [ho] at hr; exact (All.none hr).elim
      | some o =>
        simp only [ho] at hr a1 ⊢
        have e2 : h2.look x = some o := by
          rw [← ho]
          by_cases e : x < b
          · obtain ⟨q, hq, _⟩ := hr.some_of (run_ne _ _ _ _ _)
            exact a1 q hq x ((E.keeps _ _ _ _ _ q hq hb (Foot.ok_touch hF _ _ _)).has x (Foot.has_touch.2 (.inl ⟨rfl, e⟩)))
          · exact a2 x (by omega) hx
        simp only [e2]
        exact ih o h c b _ hr hb (Foot.ok_touch hF _ _ _) h2 a1 a2
    · rw [if_neg hx] at hr; exact (All.none hr).elim
  | set x o k ih =>
    intro h c b F hr hb hF h2 a1 a2
    rw [run_set] at hr a1 ⊢
    rw [run_set]
    by_cases hx : x < c
    · rw [if_pos hx] at hr a1 ⊢
      rw [if_pos hx]
      have := ih _ c b _ hr hb (Foot.ok_touch hF _ _ _) (h2.put o x) (fun q hq y hy => by
        rw [T.look_put, T.look_put]; split
        · rfl
        · exact a1 q hq y hy) (fun y hy hy' => by
        rw [T.look_put, T.look_put]; split
        · rfl
        · exact a2 y hy hy')
      have mem : ∀ q p, Like b (h2.put o x) q p → some q ∈ k.run (h.put o x) c b (F.touch b x true) → Like b h2 q p := fun q p hl hq => by
        have i := E.keeps _ _ _ _ _ q hq hb (Foot.ok_touch hF _ _ _)
        have iup := i.up
        refine ⟨hl.v, hl.c, hl.F, hl.has, hl.mid, fun y hy hy' => ?_⟩
        rw [hl.same y hy hy', T.look_put_ne]
        rintro rfl
        by_cases e : y < b
        · exact hy (i.wrote y (Foot.wrote_touch.2 (.inl ⟨rfl, e, rfl⟩)))
        · exact hy' ⟨by omega, by omega⟩
      have gen : ∀ a b', All2 (Like b (h2.put o x)) a b' → (∀ q, some q ∈ a → some q ∈ k.run (h.put o x) c b (F.touch b x true)) → All2 (Like b h2) a b' := by
        intro a b' h2'
        induction h2' with
        | nil => intro _; exact .nil
        | cons hh t ih => intro hm; exact .cons (mem _ _ hh (hm _ (List.mem_cons_self ..))) (ih fun q hq => hm q (List.mem_cons_of_mem _ hq))
      exact gen _ _ this fun _ h => h
    · rw [if_neg hx] at hr; exact (All.none hr).elim
  | new o k ih =>
    intro h c b F hr hb hF h2 a1 a2
    rw [run_new] at hr a1 ⊢
    rw [run_new]
    have := ih c _ (c + 1) b F hr (by omega) hF (h2.put o c) (fun q hq y hy => by
      rw [T.look_put, T.look_put]; split
      · rfl
      · exact a1 q hq y hy) (fun y hy hy' => by
      rw [T.look_put, T.look_put]; split
      · rfl
      · exact a2 y hy (by omega))
    have gen : ∀ a b', All2 (Like b (h2.put o c)) a b' → (∀ q, some q ∈ a → some q ∈ (k c).run (h.put o c) (c + 1) b F) → All2 (Like b h2) a b' := by
      intro a b' h2'
      induction h2' with
      | nil => intro _; exact .nil
      | cons hh t ih =>
        rename_i q p _ _
        intro hm
        have iup : c + 1 ≤ q.2.2.1 := (E.keeps _ _ _ _ _ q (hm _ (List.mem_cons_self ..)) (by omega) hF).up
        refine .cons ⟨hh.v, hh.c, hh.F, hh.has, hh.mid, fun y hy hy' => ?_⟩ (ih fun q hq => hm q (List.mem_cons_of_mem _ hq))
        rw [hh.same y hy hy', T.look_put_ne]
        rintro rfl
        exact hy' ⟨by omega, by omega⟩
    exact gen _ _ this fun _ h => h
  | choose n k ih =>
    intro h c b F hr hb hF h2 a1 a2
    rw [run_choose] at hr a1 ⊢
    rw [run_choose]
    exact All2.upTo fun i hi => ih i h c b F (All.upTo.1 hr i hi) hb hF h2 (fun q hq => a1 q (mem_upTo.2 ⟨i, hi, hq⟩)) a2
  | scope e k ihe ihk =>
    intro h c b F hr hb hF h2 a1 a2
    rw [run_scope] at hr a1 ⊢
    rw [run_scope]
    have hr' := All.eachOf.1 hr
    have he : All (fun _ => True) (e.run h c c Foot.empty) := hr'.mono fun _ _ => trivial
    have emp : Foot.empty.ok := fun x hx => absurd (Foot.look_empty x) hx
    have f1 : ∀ r, some r ∈ e.run h c c Foot.empty → ∀ x, r.2.2.2.has x → x < c := fun r hr x hx => by
      rcases (E.keeps _ _ _ _ _ r hr (Nat.le_refl _) emp).low x hx with h | h
      · exact absurd (Foot.look_empty x) h
      · exact h
    have memE : ∀ (l : Outs) (f : Res → Outs) (r q : Res), All (fun _ => True) l → some r ∈ l → some q ∈ f r → some q ∈ eachOf l f := by
      intro l f r q hl hr hq
      induction l with
      | nil => cases hr
      | cons s l ih =>
        obtain ⟨s', rfl, _⟩ := hl _ (List.mem_cons_self ..)
        rw [eachOf_some]
        rcases List.mem_cons.1 hr with e | hr
        · cases e; exact List.mem_append.2 (.inl hq)
        · exact List.mem_append.2 (.inr (ih (fun r hr => hl r (List.mem_cons_of_mem _ hr)) hr))
    have b1 : ∀ r, some r ∈ e.run h c c Foot.empty → ∀ x, r.2.2.2.has x → h2.look x = h.look x := fun r hrm x hx => by
      by_cases eb : x < b
      · obtain ⟨r', er, hall⟩ := hr' _ hrm
        cases er
        obtain ⟨q, hq, _⟩ := hall.some_of (run_ne _ _ _ _ _)
        have i := E.keeps _ _ _ _ _ r hrm (Nat.le_refl _) emp
        have iup := i.up
        have j := E.keeps _ _ _ _ _ q hq (by omega) (Foot.merge_ok hF)
        exact a1 q (memE _ _ r q he hrm hq) x (j.has x (Foot.merge_has i.ok hx eb))
      · exact a2 x (by omega) (f1 r hrm x hx)
    have i7 := ihe h c c Foot.empty he (Nat.le_refl _) emp h2 b1 (fun x h1 h2 => absurd h2 (by omega))
    rw [← i7.many]
    generalize many (e.run h c c Foot.empty) = mb at *
    refine i7.eachOf (S := Like b h2) fun r p hrm hl => ?_
    obtain ⟨r', er, hall⟩ := hr' _ hrm
    cases er
    obtain ⟨v1, h1, c1, F1⟩ := r
    obtain ⟨v2, h21, c2, F2⟩ := p
    obtain ⟨lv, lc, lF, j2, j3, j4⟩ := hl
    simp only at lv lc lF j2 j3 j4 hall ⊢
    subst lv lc lF
    have i := E.keeps _ _ _ _ _ _ hrm (Nat.le_refl _) emp
    have iup : c ≤ c2 := i.up
    have i6 : ∀ x, ¬ F2.wrote x → ¬ (c ≤ x ∧ x < c2) → h1.look x = h.look x := i.same
    have g : ∀ x, h2.look x = h.look x → h21.look x = h1.look x := fun x hx => by
      by_cases hw : F2.wrote x
      · exact j2 x (Foot.wrote_has hw)
      · by_cases hc : c ≤ x ∧ x < c2
        · exact j3 x hc.1 hc.2
        · rw [j4 x hw hc, i6 x hw hc]; exact hx
    have := ihk v2 c c2 F2 mb h1 c2 b _ hall (by omega) (Foot.merge_ok hF) h21 (fun q hq x hx => g x (a1 q (memE _ _ _ q he hrm hq) x hx)) (fun x hx hx' => by
      by_cases hc : c ≤ x
      · exact j3 x hc hx'
      · exact g x (a2 x hx (by omega)))
    have gen : ∀ a b', All2 (Like b h21) a b' → (∀ q, some q ∈ a → some q ∈ (k v2 c c2 F2 mb).run h1 c2 b (F.merge b F2)) → All2 (Like b h2) a b' := by
      intro a b' h2'
      induction h2' with
      | nil => intro _; exact .nil
      | cons hh t ih =>
        rename_i q p _ _
        intro hm
        have j := E.keeps _ _ _ _ _ q (hm _ (List.mem_cons_self ..)) (by omega) (Foot.merge_ok hF)
        have jup : c2 ≤ q.2.2.1 := j.up
        refine .cons ⟨hh.v, hh.c, hh.F, hh.has, hh.mid, fun y hy hy' => ?_⟩ (ih fun q hq => hm q (List.mem_cons_of_mem _ hq))
        rw [hh.same y hy hy']
        refine j4 y (fun hw => ?_) (fun hw => hy' ⟨by omega, by omega⟩)
        by_cases eb : y < b
        · exact hy (j.wrote y (Foot.merge_wrote i.ok hw eb))
        · have := f1 _ hrm y (Foot.wrote_has hw)
          exact hy' ⟨by omega, by omega⟩
    exact gen _ _ this fun _ h => h
end Ev
end

section
namespace Ev
open Go
set_option linter.unusedVariables false
/-- What the plain run is told of the program: types, functions, and functions that it takes as told. -/
structure Tab where
  ty : T TypeInfo
  fn : T Func
  given : FuncId → Option (List AV → (AV → E) → E)
  idle : FuncId → Bool
  flat : TypeId → Bool

abbrev undA : AV := .tuple []
def opt {α : Type} (n : Nat) (o : Option α) (k : α → E) : E := match o with | some a => k a | none => .fail n
def cellsA : AV → List AV | .agg cs => cs | v => [v]
def bytesN (b : ByteArray) : List Nat := b.data.toList.map UInt8.toNat
mutual
def absV : Value → Option AV
  | .bool b => some (.bool b)
  | .int k n => some (.int k n)
  | .string s => some (.str (bytesN s))
  | .pointer none => some (.ptr none)
  | .slice none 0 0 => some (.slice none 0 0 none)
  | .map none => some (.map none)
  | .func (.func f) ⟨[]⟩ ⟨[]⟩ => some (.func (.func f) [] [])
  | .nilFunc => some .nilFunc
  | .nilIface => some .nilIface
  | .iface t v => match absV v with | some a => some (.iface t a) | none => none
  | .agg ⟨cs⟩ => match absVs cs with | some l => some (.agg l) | none => none
  | .tuple ⟨cs⟩ => match absVs cs with | some l => some (.tuple l) | none => none
  | _ => none
def absVs : List Value → Option (List AV)
  | [] => some []
  | v :: vs => match absV v with | some a => (match absVs vs with | some l => some (a :: l) | none => none) | none => none
end
structure AAct where
  sz : Nat
  tm : T AV
  ds : List (FuncId × List AV)
noncomputable def AAct.at (a : AAct) (t : Nat) : AV := @Option.rec AV (fun _ => AV) undA (fun v => v) (a.tm.look t)
noncomputable def evA (a : AAct) : Operand → Option AV
  | .tmp t => some (a.at t)
  | .const v => absV v
  | .global g => some (.glob g 0)
  | .func f => some (.func (.func f) [] [])
noncomputable def evL (a : AAct) : List Operand → Option (List AV)
  | [] => some []
  | x :: xs => match evA a x with | some v => (match evL a xs with | some l => some (v :: l) | none => none) | none => none
noncomputable def AAct.put (a : AAct) (d : Option Tmp) (v : AV) : AAct := match d with | some t => { a with tm := a.tm.put v t } | none => a
section
variable (tb : Tab)
noncomputable def und (t : TypeId) : Option TypeDesc := match tb.ty.look t with
  | some i => (match i.desc with
    | .named _ u => (match tb.ty.look u with | some j => some j.desc | none => none)
    | d => some d)
  | none => none
noncomputable def szA (t : TypeId) : Option Nat := match tb.ty.look t with | some i => some i.size | none => none
noncomputable def isAggA (t : TypeId) : Option Bool := match und tb t with
  | some (.struct _) => some true
  | some (.array _ _) => some true
  | some _ => some false
  | none => none
noncomputable def zeroA (t : TypeId) : Option AV := match tb.ty.look t with | some i => (match i.zero with | some v => absV v | none => none) | none => none
/-- n elements of a list from place i, if they are there. -/
def seg (l : List AV) : Nat → Nat → Option (List AV)
  | 0, 0 => some []
  | 0, n + 1 => match l with | x :: xs => (match seg xs 0 n with | some r => some (x :: r) | none => none) | [] => none
  | i + 1, n => match l with | _ :: xs => seg xs i n | [] => none
/-- A list with others laid over it from place i; longer, if they reach past its end. -/
def lay (l : List AV) : Nat → List AV → Option (List AV)
  | 0, [] => some l
  | 0, y :: ys => match l with | _ :: xs => (match lay xs 0 ys with | some r => some (y :: r) | none => none) | [] => some (y :: ys)
  | i + 1, ys => match l with | x :: xs => (match lay xs i ys with | some r => some (x :: r) | none => none) | [] => none
def allOne : List AV → Bool
  | [] => true
  | .agg _ :: _ => false
  | .tuple _ :: _ => false
  | _ :: l => allOne l
/-- The cells of a row, if it may be read. -/
def rowE (x : Nat) (k : List AV → Option Nat → E) : E := .get x fun o => match o with
  | .row cs none => k cs none
  | .row cs (some g) => .get g fun og => match og with | .grp _ => k cs (some g) | _ => .fail 101
  | _ => .fail 102
def readE (x off n : Nat) (k : List AV → E) : E := match n with
  | 0 => k []
  | n + 1 => rowE x fun cs _ => opt 103 (seg cs off (n + 1)) k
def bkill (g : Option Nat) (k : E) : E := match g with | none => k | some g => .set g .dead k
def writeE (x off : Nat) (vs : List AV) (k : E) : E := match vs with
  | [] => k
  | v :: vs => bif allOne (v :: vs) then rowE x fun cs g => match seg cs off (v :: vs).length with
    | none => .fail 104
    | some _ => opt 105 (lay cs off (v :: vs)) fun cs' => bkill g (.set x (.row cs' none) k) else .fail 106
noncomputable def loadE (t : TypeId) (v : AV) (k : AV → E) : E := match v with
  | .ptr (some (x, off)) => (match isAggA tb t with
    | some true => opt 107 (szA tb t) fun n => readE x off n fun cs => k (.agg cs)
    | some false => readE x off 1 fun cs => match cs with | [c] => k c | _ => .fail 108
    | none => .fail 109)
  | _ => .fail 110
noncomputable def storeE (t : TypeId) (v u : AV) (k : E) : E := match v with
  | .ptr (some (x, off)) => opt 111 (szA tb t) fun n => bif Nat.beq (cellsA u).length n then writeE x off (cellsA u) k else .fail 112
  | _ => .fail 113
noncomputable def partA (t : TypeId) (cs : List AV) (off : Nat) : Option AV := match isAggA tb t with
  | some true => (match szA tb t with | some n => (match seg cs off n with | some l => some (.agg l) | none => none) | none => none)
  | some false => (match seg cs off 1 with | some [c] => some c | _ => none)
  | none => none
/-- Are two values the same? For the kinds that need no look at memory. -/
noncomputable def eqA : Nat → TypeId → AV → AV → Option Bool
  | 0, _, _, _ => none
  | d + 1, t, x, y => match und tb t with
    | some .bool => (match x, y with | .bool a, .bool b => some (a == b) | _, _ => none)
    | some (.int _) => (match x, y with | .int j a, .int k b => bif decide (j = k) then some (a == b) else none | _, _ => none)
    | some .string => (match x, y with | .str a, .str b => some (a == b) | _, _ => none)
    | some (.pointer e) => (match x, y with
      | .ptr none, .ptr b => some b.isNone
      | .ptr (some _), .ptr none => some false
      | .ptr (some a), .ptr (some b) => (match szA tb e with
        | some (_ + 1) => bif Nat.beq a.1 b.1 then some (Nat.beq a.2 b.2) else none
        | _ => none)
      | _, _ => none)
    | some (.interface ms) => (match x, y with
      | .nilIface, .nilIface => bif ms.isEmpty then some true else none
      | .nilIface, .iface _ _ => some false
      | .iface _ _, .nilIface => some false
      | _, _ => none)
    | some (.slice _) => (match x, y with
      | .slice none _ _ _, .slice b _ _ _ => some b.isNone
      | .slice (some _) _ _ _, .slice none _ _ _ => some false
      | _, _ => none)
    | some (.map _ _) => (match x, y with
      | .map none, .map b => some b.isNone
      | .map (some _), .map none => some false
      | _, _ => none)
    | some (.func _ _ _) => (match x, y with
      | .nilFunc, .nilFunc => some true
      | .nilFunc, .func _ _ _ => some false
      | .func _ _ _, .nilFunc => some false
      | _, _ => none)
    | some (.struct fs) => bif !(tb.flat t) then none else (match x, y with
      | .agg xs, .agg ys => fs.toList.foldr (fun f r => bif f.name == "_" then none else match partA tb f.type xs f.offset, partA tb f.type ys f.offset with
          | some a, some b => (match eqA d f.type a b with | some true => r | o => o)
          | _, _ => none) (some true)
      | _, _ => none)
    | _ => none
def bytesLt : List Nat → List Nat → Bool
  | _, [] => false
  | [], _ :: _ => true
  | a :: x, b :: y => Nat.blt a b || (Nat.beq a b && bytesLt x y)
def strOp (op : BinOp) (a b : List Nat) : Option AV := match op with
  | .add => bif Nat.blt (a.length + b.length) 1000000 then some (.str (a ++ b)) else none
  | .eql => some (.bool (a == b))
  | .neq => some (.bool (!(a == b)))
  | .lss => some (.bool (bytesLt a b))
  | .leq => some (.bool (bytesLt a b || a == b))
  | .gtr => some (.bool (!(bytesLt a b || a == b)))
  | .geq => some (.bool (!(bytesLt a b)))
  | _ => none
def intOp (op : BinOp) (k : IntKind) (x y : Int) : Option AV := match op with
  | .add => some (.int k (k.wrap (x + y)))
  | .sub => some (.int k (k.wrap (x - y)))
  | .mul => some (.int k (k.wrap (x * y)))
  | .quo => bif y == 0 then none else some (.int k (k.wrap (x.tdiv y)))
  | .rem => bif y == 0 then none else some (.int k (x.tmod y))
  | .and => some (.int k (k.wrap (BitVec.ofInt k.bits x &&& BitVec.ofInt k.bits y).toNat))
  | .or => some (.int k (k.wrap (BitVec.ofInt k.bits x ||| BitVec.ofInt k.bits y).toNat))
  | .xor => some (.int k (k.wrap (BitVec.ofInt k.bits x ^^^ BitVec.ofInt k.bits y).toNat))
  | .andNot => some (.int k (k.wrap (BitVec.ofInt k.bits x &&& ~~~BitVec.ofInt k.bits y).toNat))
  | .eql => some (.bool (x == y))
  | .neq => some (.bool (x != y))
  | .lss => some (.bool (decide (x < y)))
  | .leq => some (.bool (decide (x ≤ y)))
  | .gtr => some (.bool (decide (x > y)))
  | .geq => some (.bool (decide (x ≥ y)))
  | _ => none
def shiftOp (op : BinOp) (k : IntKind) (x y : Int) : Option AV := bif decide (y < 0) then none else match op with
  | .shl => some (.int k (k.wrap (x * 2 ^ (min y.toNat k.bits))))
  | .shr => some (.int k (x.fdiv (2 ^ (min y.toNat k.bits))))
  | _ => none
/-- Two nil values of an interface type, one of them the literal. -/
noncomputable def nilA (op : BinOp) (t : TypeId) (x y : AV) : Option AV := match op, x, y, und tb t with
  | .eql, .nilIface, .nilIface, some (.interface _) => some (.bool true)
  | .neq, .nilIface, .nilIface, some (.interface _) => some (.bool false)
  | _, _, _, _ => none
noncomputable def binA (op : BinOp) (t : TypeId) (x y : AV) : Option AV := match x with
  | .int k a => (match y with
    | .int k' b => (match op with
      | .shl => shiftOp .shl k a b
      | .shr => shiftOp .shr k a b
      | op => bif decide (k = k') then intOp op k a b else none)
    | _ => none)
  | .str a => (match y with | .str b => strOp op a b | _ => none)
  | x => (match op with
    | .eql => (match eqA tb 10000 t x y with | some b => some (.bool b) | none => none)
    | .neq => (match eqA tb 10000 t x y with | some b => some (.bool (!b)) | none => none)
    | _ => none)
def unA (op : UnOp) (x : AV) : Option AV := match op, x with
  | .neg, .int k n => some (.int k (k.wrap (0 - n)))
  | .xor, .int k n => some (.int k (k.wrap (BitVec.ofInt k.bits (if k.signed then -1 else k.max) ^^^ BitVec.ofInt k.bits n).toNat))
  | .not, .bool b => some (.bool (!b))
  | _, _ => none
def u8L : List Nat → List AV
  | [] => []
  | b :: l => .int .u8 (Int.ofNat b) :: u8L l
def natL : List AV → Option (List Nat)
  | [] => some []
  | .int .u8 (Int.ofNat b) :: l => bif Nat.blt b 256 then (match natL l with | some r => some (b :: r) | none => none) else none
  | _ => none
noncomputable def convE (src dst : TypeId) (x : AV) (k : AV → E) : E := match und tb src, und tb dst, x with
  | some _, some (.int j), .int _ n => k (.int j (j.wrap n))
  | some _, some .string, .str s => k x
  | some .string, some (.slice e), .str s => (match und tb e with
    | some (.int .u8) => .new (.row (u8L s) none) fun c => k (.slice (some (c, 0)) s.length 1 none)
    | _ => .fail 120)
  | some (.slice e), some .string, .slice none _ _ _ => (match und tb e with
    | some (.int .u8) => k (.str [])
    | _ => .fail 121)
  | some (.slice e), some .string, .slice (some (x, off)) n _ _ => (match und tb e with
    | some (.int .u8) => readE x off n fun cs => opt 122 (natL cs) fun s => k (.str s)
    | _ => .fail 123)
  | _, _, _ => .fail 124
/-- A struct's or a row's cells with parts laid over them. -/
def fillA (place : Nat → Option (Nat × Nat)) : List AV → List (Nat × AV) → Option (List AV)
  | cells, [] => some cells
  | cells, (i, v) :: rest => match place i with
    | none => none
    | some (off, size) => bif Nat.beq (cellsA v).length size && Nat.ble (off + size) cells.length then (match lay cells off (cellsA v) with | some cs => fillA place cs rest | none => none) else none
def repL (z : List AV) : Nat → List AV
  | 0 => []
  | n + 1 => z ++ repL z n
noncomputable def fieldPls : List Field → Option (List (Nat × Nat))
  | [] => some []
  | f :: fs => match szA tb f.type with | some n => (match fieldPls fs with | some l => some ((f.offset, n) :: l) | none => none) | none => none
noncomputable def buildA (t : TypeId) (parts : List (Nat × AV)) : Option AV := match zeroA tb t with
  | some z => (match und tb t with
    | some (.struct fs) => (match fieldPls tb fs.toList with | some pl => (match fillA (fun i => pl[i]?) (cellsA z) parts with | some cs => some (.agg cs) | none => none) | none => none)
    | some (.array _ e) => (match szA tb e with
      | some n => (match fillA (fun i => some (i * n, n)) (cellsA z) parts with | some cs => some (.agg cs) | none => none)
      | none => none)
    | _ => none)
  | none => none
noncomputable def elemA (t : TypeId) : Option (TypeId × Nat) := match und tb t with
  | some (.slice e) => (match szA tb e with | some (n + 1) => some (e, n + 1) | _ => none)
  | _ => none
noncomputable def buildSliceE (t : TypeId) (len : Nat) (parts : List (Nat × AV)) (k : AV → E) : E :=
  opt 130 (elemA tb t) fun p => opt 131 (zeroA tb p.1) fun z => bif Nat.ble (len * p.2) 16777216 && Nat.beq (cellsA z).length p.2 then
    opt 132 (fillA (fun i => some (i * p.2, p.2)) (repL (cellsA z) len) parts) fun cs => bif allOne cs then .new (.row cs none) fun c => k (.slice (some (c, 0)) len p.2 (some len)) else .fail 129 else .fail 133
noncomputable def narrow (t : TypeId) : Bool := match tb.ty.look t with | some i => Nat.ble i.bytes 100000 | none => false
noncomputable def makeSliceE (t : TypeId) (len cap : AV) (k : AV → E) : E := match len, cap with
  | .int _ l, .int _ c => opt 134 (elemA tb t) fun p => opt 135 (zeroA tb p.1) fun z => bif decide (0 ≤ l) && decide (l ≤ c) && decide (c ≤ 100000) && Nat.beq (cellsA z).length p.2 && allOne (cellsA z) && narrow tb p.1 then
    .new (.row (repL (cellsA z) c.toNat) none) fun x => k (.slice (some (x, 0)) l.toNat p.2 (some c.toNat)) else .fail 136
  | _, _ => .fail 137
def natOf : Option AV → Nat → Option Nat
  | none, d => some d
  | some (.int _ n), _ => bif decide (0 ≤ n) then some n.toNat else none
  | _, _ => none
/-- A row that may hold more behind what is known is gone on with behind its known cells. -/
def growE (x : Nat) (cs : List AV) (g : Option Nat) (ys : List AV) (k : Nat → E) : E := match g with
  | none => .new (.row ys none) fun y => .new (.grp y) fun g' => .set x (.row cs (some g')) (.set y (.row ys (some g')) (k y))
  | some g => .get g fun og => match og with
    | .grp l => bif Nat.beq l x then .new (.row ys (some g)) fun y => .set g (.grp y) (k y) else .set g .dead (.set x .dead (.new (.row ys none) k))
    | _ => .fail 138
noncomputable def sliceE (t : TypeId) (x : AV) (lo hi mx : Option AV) (k : AV → E) : E := match x with
  | .str s => (match mx with
    | none => (match und tb t with
      | some .string => opt 140 (natOf lo 0) fun l => opt 141 (natOf hi s.length) fun h => bif Nat.ble l h && Nat.ble h s.length then k (.str ((s.drop l).take (h - l))) else .fail 142
      | _ => .fail 143)
    | some _ => .fail 144)
  | .slice none _ _ _ => (match elemA tb t with
    | some _ => opt 145 (natOf lo 0) fun l => opt 146 (natOf hi 0) fun h => opt 147 (natOf mx 0) fun m => bif Nat.beq l 0 && Nat.beq h 0 && Nat.beq m 0 && (mx.isNone || hi.isSome) then k x else .fail 148
    | _ => .fail 149)
  | .slice (some (r, off)) n sz cap => (match elemA tb t with
    | some (_, sz') => bif Nat.beq sz sz' then
        opt 150 (natOf lo 0) fun l => opt 151 (natOf hi n) fun h =>
          match mx with
          | some _ => opt 152 (natOf mx 0) fun m => bif Nat.ble l h && Nat.ble h m && Nat.ble m (@Option.rec Nat (fun _ => Nat) n (fun c => c) cap) && hi.isSome then
              k (.slice (some (r, bif Nat.beq m l then off else off + l * sz)) (h - l) sz (some (m - l))) else .fail 153
          | none => (match cap with
            | some c => bif Nat.ble l h && Nat.ble h c then k (.slice (some (r, bif Nat.beq c l then off else off + l * sz)) (h - l) sz (some (c - l))) else .fail 154
            | none => bif Nat.ble l h && Nat.ble h n then
                (bif Nat.beq l n && !(Nat.beq l 0) then
                  rowE r fun cs g => bif Nat.beq (off + n * sz) cs.length then growE r cs g [] fun y => k (.slice (some (y, 0)) 0 sz none) else bkill g (.set r .dead (.new (.row [] none) fun y => k (.slice (some (y, 0)) 0 sz none)))
                else k (.slice (some (r, off + l * sz)) (h - l) sz none)) else .fail 155)
      else .fail 156
    | none => .fail 157)
  | _ => .fail 164
/-- What is appended: how many elements, and their cells. -/
def srcE (sz : Nat) (x : AV) (k : Nat → List AV → E) : E := match x with
  | .slice none _ _ _ => k 0 []
  | .slice (some (r, off)) n sz' _ => bif Nat.beq sz' sz then readE r off (n * sz) fun xs => k n xs else .fail 178
  | .str b => bif Nat.beq sz 1 then k b.length (u8L b) else .fail 179
  | _ => .fail 180
def appE (sz : Nat) (s : AV) (n : Nat) (xs : List AV) (k : AV → E) : E := match n with
  | 0 => (match s with | .slice _ _ _ _ => k s | _ => .fail 176)
  | n' + 1 => bif Nat.blt (n' + 1) 1000000 then (match s with
    | .slice none _ _ _ => .new (.row xs none) fun y => k (.slice (some (y, 0)) (n' + 1) sz none)
    | .slice (some (r, off)) len sz' cap => bif Nat.beq sz' sz && Nat.blt len 1000000 then
        rowE r fun cs g => opt 173 (seg cs off (len * sz)) fun old => (match cap with
        | some c => bif Nat.ble (len + (n' + 1)) c then opt 172 (lay cs (off + len * sz) xs) fun cs' => bkill g (.set r (.row cs' none) (k (.slice (some (r, off)) (len + (n' + 1)) sz cap)))
            else .new (.row (old ++ xs) none) fun y => k (.slice (some (y, 0)) (len + (n' + 1)) sz none)
        | none => bif Nat.beq (off + len * sz) cs.length then growE r cs g (old ++ xs) fun y => k (.slice (some (y, 0)) (len + (n' + 1)) sz none)
            else bkill g (.set r .dead (.new (.row (old ++ xs) none) fun y => k (.slice (some (y, 0)) (len + (n' + 1)) sz none))))
      else .fail 175
    | _ => .fail 176) else .fail 177
noncomputable def appendE (t : TypeId) (s x : AV) (k : AV → E) : E := opt 170 (elemA tb t) fun p => opt 181 (zeroA tb p.1) fun z => bif Nat.beq (cellsA z).length p.2 && narrow tb p.1 then
  srcE p.2 x fun n xs => appE p.2 s n xs k else .fail 182
end
end Ev
end

section
namespace Ev
open Go
set_option linter.unusedVariables false
section
variable (tb : Tab)
/-- The first entry of a key, and its place. -/
noncomputable def findA (kt : TypeId) (key : AV) : List (AV × AV × Nat) → Nat → Option (Option (Nat × (AV × AV × Nat)))
  | [], _ => some none
  | e :: es, i => match eqA tb 10000 kt key e.1 with
    | some true => some (some (i, e))
    | some false => findA kt key es (i + 1)
    | none => none
/-- The same bits, for the plain kinds. -/
def sameOne : AV → AV → Bool
  | .bool a, .bool b => a == b
  | .int j a, .int k b => decide (j = k) && a == b
  | .str a, .str b => a == b
  | _, _ => false
def sameAll : List AV → List AV → Bool
  | [], [] => true
  | a :: l, b :: m => sameOne a b && sameAll l m
  | _, _ => false
def sameA : AV → AV → Bool
  | .agg l, .agg m => sameAll l m
  | a, b => sameOne a b
noncomputable def keyOk : Nat → TypeId → AV → Bool
  | 0, _, _ => false
  | d + 1, t, v => match und tb t, v with
    | some .bool, .bool _ => true
    | some (.int _), .int _ _ => true
    | some .string, .str _ => true
    | some (.struct fs), .agg cs => fs.toList.foldr (fun f r => bif f.name == "_" then false else match partA tb f.type cs f.offset with
        | some a => bif keyOk d f.type a then r else false
        | none => false) true
    | _, _ => false
def mapE (x : Nat) (k : List (AV × AV × Nat) → Nat → E) : E := .get x fun o => match o with | .map es ck => k es ck | _ => .fail 201
noncomputable def lookupE (t : TypeId) (m key : AV) (ok : Bool) (k : AV → E) : E := match und tb t with
  | some (.map kt et) => bif keyOk tb 10000 kt key then
      (match m with
      | .map none => opt 202 (zeroA tb et) fun z => k (bif ok then .tuple [z, .bool false] else z)
      | .map (some x) => mapE x fun es _ => opt 203 (findA tb kt key es 0) fun r => (match r with
        | some e => k (bif ok then .tuple [e.2.2.1, .bool true] else e.2.2.1)
        | none => opt 204 (zeroA tb et) fun z => k (bif ok then .tuple [z, .bool false] else z))
      | _ => .fail 205) else .fail 206
  | _ => .fail 207
noncomputable def updateE (t : TypeId) (m key v : AV) (k : E) : E := match und tb t with
  | some (.map kt _) => bif keyOk tb 10000 kt key then (match m with
      | .map (some x) => mapE x fun es ck => opt 208 (findA tb kt key es 0) fun r => (match r with
        | some e => bif sameA e.2.1 key then .set x (.map (es.set e.1 (key, v, e.2.2.2)) ck) k else .fail 212
        | none => .set x (.map (es ++ [(key, v, ck)]) (ck + 1)) k)
      | _ => .fail 209) else .fail 210
  | _ => .fail 211
noncomputable def deleteE (t : TypeId) (m key : AV) (k : E) : E := match und tb t with
  | some (.map kt _) => bif keyOk tb 10000 kt key then (match m with
      | .map none => k
      | .map (some x) => mapE x fun es ck => opt 219 (findA tb kt key es 0) fun r => (match r with
        | some e => .set x (.map (es.eraseIdx e.1) ck) k
        | none => .set x (.map es ck) k)
      | _ => .fail 220) else .fail 221
  | _ => .fail 222
noncomputable def lenE (t : TypeId) (x : AV) (k : AV → E) : E := match x with
  | .str s => (match und tb t with | some .string => k (.int .i64 s.length) | _ => .fail 224)
  | .slice _ n _ _ => (match und tb t with | some (.slice _) => k (.int .i64 n) | _ => .fail 225)
  | .map none => (match und tb t with | some (.map _ _) => k (.int .i64 0) | _ => .fail 226)
  | .map (some x) => (match und tb t with | some (.map _ _) => mapE x fun es _ => k (.int .i64 es.length) | _ => .fail 227)
  | _ => (match und tb t with | some (.array n _) => k (.int .i64 n) | _ => .fail 228)
def minA (less : Bool) : AV → List AV → Option AV
  | .int j a, [] => some (.int j a)
  | .int j a, .int _ b :: l => minA less (.int j (bif less then (if b < a then b else a) else (if a < b then b else a))) l
  | _, _ => none
noncomputable def indexAddrE (t : TypeId) (x ix : AV) (k : AV → E) : E := match ix with
  | .int _ (Int.ofNat i) => (match x with
    | .slice (some (r, off)) n sz _ => (match elemA tb t with
      | some (_, sz') => bif Nat.beq sz sz' && Nat.blt i n then k (.ptr (some (r, off + i * sz))) else .fail 240
      | none => .fail 241)
    | .ptr (some (r, off)) => (match und tb t with
      | some (.array n e) => (match szA tb e with
        | some sz => bif Nat.blt i n then k (.ptr (some (r, off + i * sz))) else .fail 242
        | none => .fail 243)
      | _ => .fail 244)
    | _ => .fail 245)
  | _ => .fail 246
def nthN : List Nat → Nat → Option Nat
  | [], _ => none
  | x :: _, 0 => some x
  | _ :: l, n + 1 => nthN l n
noncomputable def indexA (t : TypeId) (x ix : AV) : Option AV := match ix with
  | .int _ (Int.ofNat i) => (match x with
    | .str s => (match und tb t, nthN s i with | some .string, some b => some (.int .u8 (Int.ofNat b)) | _, _ => none)
    | .agg cs => (match und tb t with
      | some (.array n e) => (match szA tb e with
        | some sz => bif Nat.blt i n then partA tb e cs (i * sz) else none
        | none => none)
      | _ => none)
    | _ => none)
  | _ => none
noncomputable def fieldA (t : TypeId) (x : AV) (i : Nat) : Option AV := match und tb t, x with
  | some (.struct fs), .agg cs => (match fs.toList[i]? with | some f => partA tb f.type cs f.offset | none => none)
  | _, _ => none
noncomputable def fieldAddrA (t : TypeId) (x : AV) (i : Nat) : Option AV := match und tb t, x with
  | some (.struct fs), .ptr (some (r, off)) => (match fs.toList[i]? with
    | some f => (match szA tb f.type with | some (_ + 1) => some (.ptr (some (r, off + f.offset))) | _ => none)
    | none => none)
  | _, _ => none
noncomputable def assertA (x : AV) (asserted : TypeId) (ok : Bool) : Option AV := match und tb asserted with
  | none => none
  | some (.interface _) => none
  | some _ => (match x with
    | .nilIface => bif ok then (match zeroA tb asserted with | some z => some (.tuple [z, .bool false]) | none => none) else none
    | .iface t v => bif Nat.beq t asserted then some (bif ok then .tuple [v, .bool true] else v)
        else bif ok then (match zeroA tb asserted with | some z => some (.tuple [z, .bool false]) | none => none) else none
    | _ => none)
noncomputable def makeMapE (t : TypeId) (r : Option AV) (k : AV → E) : E := match r with
  | none => .new (.map [] 0) fun c => k (.map (some c))
  | some (.int _ _) => (match und tb t with
    | some (.map _ _) => .new (.map [] 0) fun c => k (.map (some c))
    | _ => .fail 247)
  | _ => .fail 248
noncomputable def builtinE (b : Builtin) (ts : List TypeId) (args : List AV) (k : AV → E) : E := match b, ts, args with
  | .len, t :: _, [x] => lenE tb t x k
  | .append, [t, u], [s, x] => (match und tb u, x with | some (.slice _), .slice _ _ _ _ => appendE tb t s x k | some .string, .str _ => appendE tb t s x k | _, _ => .fail 171)
  | .min, _, x :: l => opt 250 (minA true x l) k
  | .max, _, x :: l => opt 251 (minA false x l) k
  | .delete, t :: _, [m, x] => deleteE tb t m x (k undA)
  | _, _, _ => .fail 252
def appl (first : List AV) (args captured : List AV) : List AV := first ++ (args ++ captured)
noncomputable def evParts (a : AAct) : List (Nat × Operand) → Option (List (Nat × AV))
  | [] => some []
  | p :: ps => match evA a p.2 with | some v => (match evParts a ps with | some l => some ((p.1, v) :: l) | none => none) | none => none
noncomputable def evO (a : AAct) : Option Operand → Option (Option AV)
  | none => some none
  | some x => match evA a x with | some v => some (some v) | none => none
def isConst : Operand → Bool
  | .const _ => true
  | _ => false
/-- The function behind a method of a value in an interface: of a value's own method, or of a pointer's. -/
noncomputable def methA (t : TypeId) (name : String) : Option FuncId := match tb.ty.look t, und tb t with
  | some i, some d => (match i.methods.find? (fun m => m.name == name) with
    | some m => (match m.path.toList, m.func, d with
      | [], some (f, true), .pointer _ => some f
      | [], some (_, false), .pointer _ => none
      | [], some (f, false), _ => some f
      | _, _, _ => none)
    | none => none)
  | _, _ => none
noncomputable def opE (call : FuncId → List AV → (AV → E) → E) (a : AAct) (o : Oper) (k : AV → E) : E := match o.op with
  | .move x => opt 300 (evA a x) k
  | .assign x => opt 301 (evA a x) k
  | .pick c x y => (match evA a c with | some (.bool true) => opt 302 (evA a x) k | some (.bool false) => opt 302 (evA a y) k | _ => .fail 303)
  | .alloc e => opt 304 (zeroA tb e) fun z => bif allOne (cellsA z) then .new (.row (cellsA z) none) fun c => k (.ptr (some (c, 0))) else .fail 305
  | .box e x => opt 305 (evA a x) fun v => bif allOne (cellsA v) then .new (.row (cellsA v) none) fun c => k (.ptr (some (c, 0))) else .fail 306
  | .build t ps => opt 307 (evParts a ps.toList) fun l => opt 308 (buildA tb t l) k
  | .buildSlice t n ps => opt 309 (evParts a ps.toList) fun l => buildSliceE tb t n l k
  | .load t x => opt 311 (evA a x) fun v => loadE tb t v k
  | .store t x y => opt 312 (evA a x) fun v => opt 312 (evA a y) fun u => storeE tb t v u (k undA)
  | .nilCheck x => (match evA a x with
    | some (.ptr (some p)) => k (.ptr (some p))
    | some (.func (.func f) l m) => k (.func (.func f) l m)
    | some (.iface t v) => k (.iface t v)
    | _ => .fail 313)
  | .binOp op t x y _ => opt 314 (evA a x) fun u => opt 314 (evA a y) fun v => (match binA tb op t u v with
    | some r => k r
    | none => bif isConst x || isConst y then opt 315 (nilA tb op t u v) k else .fail 316)
  | .unOp op _ x => opt 316 (evA a x) fun x => opt 317 (unA op x) k
  | .convert s d x => opt 318 (evA a x) fun x => convE tb s d x k
  | .makeInterface t x => opt 319 (evA a x) fun v => (match und tb t with | some (.interface _) => .fail 320 | some _ => k (.iface t v) | none => .fail 321)
  | .makeFunc fn f c => (match fn with
    | .func g => opt 322 (evL a f.toList) fun l => opt 323 (evL a c.toList) fun m => k (.func (.func g) l m)
    | _ => .fail 324)
  | .makeMap t r => opt 325 (evO a r) fun r => makeMapE tb t r k
  | .makeSlice t l c => opt 326 (evA a l) fun l => opt 326 (evA a c) fun c => makeSliceE tb t l c k
  | .slice t x lo hi mx => opt 327 (evA a x) fun x => opt 328 (evO a lo) fun lo => opt 328 (evO a hi) fun hi => opt 328 (evO a mx) fun mx => sliceE tb t x lo hi mx k
  | .fieldAddr t x i => opt 329 (evA a x) fun x => opt 330 (fieldAddrA tb t x i) k
  | .field t x i => opt 331 (evA a x) fun x => opt 332 (fieldA tb t x i) k
  | .indexAddr t x i => opt 333 (evA a x) fun x => opt 333 (evA a i) fun i => indexAddrE tb t x i k
  | .index t x i => opt 334 (evA a x) fun x => opt 334 (evA a i) fun i => opt 335 (indexA tb t x i) k
  | .lookup t x i ok => opt 336 (evA a x) fun x => opt 336 (evA a i) fun i => lookupE tb t x i ok k
  | .mapUpdate t m x y => opt 337 (evA a m) fun m => opt 337 (evA a x) fun x => opt 337 (evA a y) fun y => updateE tb t m x y (k undA)
  | .typeAssert x _ t ok => opt 340 (evA a x) fun x => opt 341 (assertA tb x t ok) k
  | .extract x i => (match evA a x with | some (.tuple l) => opt 342 (l[i]?) k | _ => .fail 343)
  | .call c => opt 344 (evL a c.args.toList) fun args => (match c.callee with
    | .builtin b => builtinE tb b c.argTypes.toList args k
    | .value f => (match evA a f with
      | some (.func (.func g) l m) => call g (appl l args m) k
      | _ => .fail 345)
    | .invoke r name => (match evA a r with
      | some (.iface t v) => opt 346 (methA tb t name) fun f => call f (v :: args) k
      | _ => .fail 348))
  | _ => .fail 347
/-- Is an operation carried out? none: it cannot be told. -/
noncomputable def wantA (all : List Oper) (a : AAct) (o : Oper) : Option Bool := match o.guard with
  | none => some true
  | some (j, want) => (match all[j]? with
    | some p => (match p.dst with
      | some d => (match a.at d with
        | .bool b => some (b == want)
        | .sym _ => none
        | _ => some false)
      | none => some false)
    | none => some false)
def dstOk (sz : Nat) : Option Tmp → Bool | some d => Nat.blt d sz | none => true
noncomputable def regS (op : AAct → Oper → (AV → E) → E) (all : List Oper) : List Oper → AAct → (AAct → E) → E
  | [], a, k => k a
  | o :: rest, a, k => bif dstOk a.sz o.dst then (match wantA all a o with
    | none => .fail 401
    | some false => regS op all rest (a.put o.dst undA) k
    | some true => (match o.op with
      | .defer c => (match c.callee with
        | .value f => (match evA a f, evL a c.args.toList with
          | some (.func (.func g) l m), some args => regS op all rest ({ a with ds := (g, appl l args m) :: a.ds }.put o.dst undA) k
          | _, _ => .fail 410)
        | _ => .fail 411)
      | _ => op a o fun v => regS op all rest (a.put o.dst v) k)) else .fail 402
structure Step where
  i : Nat
  c0 : Nat
  c1 : Nat
  F : Foot
/-- Does operation i stand before operation j, by the edges? -/
def befB (all : List Oper) : Nat → Nat → Nat → Bool
  | 0, _, _ => false
  | n + 1, i, j => match all[j]? with
    | some o => o.after.toList.any fun e => Region.binds .any e && (Nat.beq e.on i || befB all n i e.on)
    | none => false
/-- Must the earlier of two parts go ahead of the later one? -/
noncomputable def clash (p q : Step) : Bool := q.F.keys.any fun x => (Nat.ble p.c0 x && Nat.blt x p.c1) ||
  (match p.F.mark.look x with
  | none => false
  | some true => true
  | some false => (match q.F.mark.look x with | some false => false | _ => true))
noncomputable def clashFree (all : List Oper) : List Step → Bool
  | [] => true
  | q :: l => l.all (fun p => !(clash p q) || befB all all.length p.i q.i) && clashFree all l
/-- Do all of the m operations behind operation i hang on it? -/
def allDep (all : List Oper) (i m : Nat) : Bool := (List.range m).all fun j => befB all all.length i (i + 1 + j)
noncomputable def regD (op : AAct → Oper → (AV → E) → E) (all : List Oper) : List Oper → Nat → AAct → List Step → (AAct → E) → E
  | [], _, a, acc, k => bif clashFree all acc then k a else .fail 403
  | o :: rest, i, a, acc, k => bif dstOk a.sz o.dst then (match wantA all a o with
    | none => .fail 404
    | some false => regD op all rest (i + 1) (a.put o.dst undA) acc k
    | some true => .scope (op a o .pure) fun v c0 c1 F mb => bif mb then .fail 406 else regD op all rest (i + 1) (a.put o.dst v) (⟨i, c0, c1, F⟩ :: acc) k) else .fail 405
/-- The edges go back, and what stands in no order shares no slot. -/
def lookT (all : List Oper) (o : Oper) : List Tmp :=
  (o.op.operands.toList.filterMap fun | .tmp t => some t | _ => none) ++ (match o.guard with
    | some (g, _) => (match all[g]? with | some p => p.dst.toList | none => [])
    | none => [])
def apartT (all : List Oper) (x y : Oper) : Bool :=
  (match x.dst with | some d => !(lookT all y).contains d && y.dst != some d | none => true) && (match y.dst with | some d => !(lookT all x).contains d | none => true)
def regOk (all : List Oper) : Bool :=
  (List.range all.length).all fun j => match all[j]? with
    | some o => o.after.toList.all (fun e => !Region.binds .any e || Nat.blt e.on j) && (List.range j).all fun i => befB all all.length i j || (match all[i]? with | some p => apartT all p o | none => true)
    | none => true
inductive Ex where
  | normal
  | ret
  | exit (id : Nat)
noncomputable def resL (a : AAct) : List ResultVar → (List AV → E) → E
  | [], k => k []
  | .tmp t :: l, k => resL a l fun vs => k (a.at t :: vs)
  | .cell x t :: l, k => loadE tb t (a.at x) fun v => resL a l fun vs => k (v :: vs)
def tupleOf : List AV → AV
  | [v] => v
  | vs => .tuple vs
noncomputable def callE (code : Code → AAct → (Ex → AAct → E) → E) (f : FuncId) (args : List AV) (k : AV → E) : E := match tb.given f with
  | some g => g args k
  | none => (match tb.fn.look f with
    | some fn => (match fn.body with
      | some c => code c ⟨max args.length fn.ntmps, T.ofL args 0 .leaf, []⟩ fun e a => (match e with
        | .exit _ => .fail 500
        | _ => bif a.ds.all (fun d => tb.idle d.1) then resL tb a fn.results.toList fun vs => k (tupleOf vs) else .fail 501)
      | none => .fail 502)
    | none => .fail 503)
noncomputable def codeE : Nat → Code → AAct → (Ex → AAct → E) → E
  | 0, _, _, _ => .fail 600
  | n + 1, c, a, k => match c with
    | .skip => k .normal a
    | .label _ => k .normal a
    | .seq x y => codeE n x a fun e a' => (match e with | .normal => codeE n y a' k | e => k e a')
    | .cond c x y => (match evA a c with
      | some (.bool true) => codeE n x a k
      | some (.bool false) => codeE n y a k
      | _ => .fail 601)
    | .block id b => codeE n b a fun e a' => (match e with
      | .exit j => bif Nat.beq j id then k .normal a' else k (.exit j) a'
      | e => k e a')
    | .loop b => codeE n b a fun e a' => (match e with | .normal => codeE n (.loop b) a' k | e => k e a')
    | .scope b => codeE n b a k
    | .exit id => k (.exit id) a
    | .ret => k .ret a
    | .region _ ops draw => bif draw then
        (bif regOk ops.toList then regD (opE tb (callE tb (codeE n))) ops.toList ops.toList 0 a [] fun a' => k .normal a' else .fail 602)
        else regS (opE tb (callE tb (codeE n))) ops.toList ops.toList a fun a' => k .normal a'
    | _ => .fail 603
end
end Ev
end

section
namespace Ev
open Go Go.RowKit
set_option linter.unusedVariables false
/-- Where a name's memory lies: a block, a place in it, and how many cells from there are its own. -/
structure Place where
  b : Nat
  o : Nat
  r : Nat
abbrev Mu := Nat → Option Place
section
variable (σ : Nat → Value)
mutual
/-- A plain value tells a value. -/
def Rel (μ : Mu) : AV → Value → Prop
  | .bool b, v => v = .bool b
  | .int k n, v => v = .int k n
  | .str s, v => ∃ ba : ByteArray, v = .string ba ∧ bytesN ba = s
  | .ptr none, v => v = .pointer none
  | .ptr (some q), v => ∃ p, μ q.1 = some p ∧ v = .pointer (some ⟨p.b, p.o + q.2, none⟩)
  | .glob g o, v => v = .pointer (some ⟨g, o, none⟩)
  | .slice none n _ _, v => n = 0 ∧ v = .slice none 0 0
  | .slice (some q) n sz cap, v => ∃ p cp ad, μ q.1 = some p ∧ v = .slice (some ad) n cp ∧ n ≤ cp ∧ (cp = 0 ∨ ad = ⟨p.b, p.o + q.2, none⟩) ∧ q.2 + cp * sz ≤ p.r ∧ (∀ c, cap = some c → cp = c)
  | .map none, v => v = .map none
  | .map (some x), v => ∃ p, μ x = some p ∧ v = .map (some p.b)
  | .func fn f c, v => ∃ f' c', v = .func fn f' c' ∧ RelL μ f f'.toList ∧ RelL μ c c'.toList
  | .nilFunc, v => v = .nilFunc
  | .iface t a, v => ∃ v', v = .iface t v' ∧ Rel μ a v'
  | .nilIface, v => v = .nilIface
  | .agg cs, v => ∃ xs, v = .agg xs ∧ RelL μ cs xs.toList
  | .tuple cs, v => ∃ xs, v = .tuple xs ∧ RelL μ cs xs.toList
  | .sym n, v => v = σ n
def RelL (μ : Mu) : List AV → List Value → Prop
  | [], l => l = []
  | a :: as, l => ∃ v vs, l = v :: vs ∧ Rel μ a v ∧ RelL μ as vs
end
variable {σ}
abbrev Ext (μ μ' : Mu) : Prop := ∀ x p, μ x = some p → μ' x = some p
mutual
theorem Rel.mono {μ μ' : Mu} (hμ : Ext μ μ') : ∀ (a : AV) (v : Value), Rel σ μ a v → Rel σ μ' a v
  | .bool _, _, h => h
  | .int _ _, _, h => h
  | .str _, _, h => h
  | .ptr none, _, h => h
  | .ptr (some q), _, ⟨p, hp, e⟩ => ⟨p, hμ _ _ hp, e⟩
  | .glob _ _, _, h => h
  | .slice none _ _ _, _, h => h
  | .slice (some q) _ _ _, _, ⟨p, cp, ad, hp, e⟩ => ⟨p, cp, ad, hμ _ _ hp, e⟩
  | .map none, _, h => h
  | .map (some x), _, ⟨p, hp, e⟩ => ⟨p, hμ _ _ hp, e⟩
  | .func _ f c, _, ⟨f', c', e, h1, h2⟩ => ⟨f', c', e, RelL.mono hμ f _ h1, RelL.mono hμ c _ h2⟩
  | .nilFunc, _, h => h
  | .iface _ a, _, ⟨v', e, h⟩ => ⟨v', e, Rel.mono hμ a v' h⟩
  | .nilIface, _, h => h
  | .agg cs, _, ⟨xs, e, h⟩ => ⟨xs, e, RelL.mono hμ cs _ h⟩
  | .tuple cs, _, ⟨xs, e, h⟩ => ⟨xs, e, RelL.mono hμ cs _ h⟩
  | .sym _, _, h => h
theorem RelL.mono {μ μ' : Mu} (hμ : Ext μ μ') : ∀ (l : List AV) (vs : List Value), RelL σ μ l vs → RelL σ μ' l vs
  | [], _, h => h
  | a :: l, _, ⟨v, vs, e, h1, h2⟩ => ⟨v, vs, e, Rel.mono hμ a v h1, RelL.mono hμ l vs h2⟩
end
theorem RelL.nil {μ : Mu} : RelL σ μ [] [] := rfl
theorem RelL.cons {μ : Mu} {a : AV} {v : Value} {l : List AV} {vs : List Value} (h : Rel σ μ a v) (t : RelL σ μ l vs) : RelL σ μ (a :: l) (v :: vs) := ⟨v, vs, rfl, h, t⟩
theorem RelL.len {μ : Mu} : ∀ {l : List AV} {vs : List Value}, RelL σ μ l vs → vs.length = l.length
  | [], _, h => by rw [show _ = [] from h]; rfl
  | a :: l, _, ⟨v, vs, e, _, h⟩ => by rw [e]; simp [RelL.len h]
theorem RelL.get {μ : Mu} : ∀ {l : List AV} {vs : List Value}, RelL σ μ l vs → ∀ (i : Nat) (a : AV), l[i]? = some a → ∃ v, vs[i]? = some v ∧ Rel σ μ a v
  | [], _, _, i, a, h => by simp at h
  | x :: l, _, ⟨v, vs, e, h1, h2⟩, i, a, h => by
    subst e
    cases i with
    | zero => simp at h; subst h; exact ⟨v, rfl, h1⟩
    | succ i => simp only [List.getElem?_cons_succ] at h ⊢; exact RelL.get h2 i a h
theorem RelL.of {μ : Mu} : ∀ {l : List AV} {vs : List Value}, vs.length = l.length → (∀ (i : Nat) (a : AV), l[i]? = some a → ∃ v, vs[i]? = some v ∧ Rel σ μ a v) → RelL σ μ l vs
  | [], vs, hl, _ => by cases vs with | nil => rfl | cons => simp at hl
  | x :: l, [], hl, _ => by simp at hl
  | x :: l, v :: vs, hl, h => by
    refine ⟨v, vs, rfl, ?_, RelL.of (by simpa using hl) fun i a hi => by simpa using h (i + 1) a (by simpa using hi)⟩
    obtain ⟨v', e, hr⟩ := h 0 x rfl
    cases e; exact hr
theorem RelL.append {μ : Mu} : ∀ {l m : List AV} {vs ws : List Value}, RelL σ μ l vs → RelL σ μ m ws → RelL σ μ (l ++ m) (vs ++ ws)
  | [], m, _, ws, h, hm => by rw [show _ = [] from h]; exact hm
  | a :: l, m, _, ws, ⟨v, vs, e, h1, h2⟩, hm => by subst e; exact .cons h1 (RelL.append h2 hm)
theorem seg_spec : ∀ (l : List AV) (i n : Nat) (s : List AV), seg l i n = some s → s = (l.drop i).take n ∧ s.length = n ∧ i + n ≤ l.length
  | l, 0, 0, s, h => by simp only [seg] at h; cases h; simp
  | [], 0, n + 1, s, h => by simp [seg] at h
  | x :: xs, 0, n + 1, s, h => by
    simp only [seg] at h
    split at h
    · rename_i r hr
      cases h
      obtain ⟨e, h1, h2⟩ := seg_spec xs 0 n r hr
      refine ⟨by simp [e], by simp [h1], by simp; omega⟩
    · cases h
  | [], i + 1, n, s, h => by simp [seg] at h
  | x :: xs, i + 1, n, s, h => by
    simp only [seg] at h
    obtain ⟨e, h1, h2⟩ := seg_spec xs i n s h
    exact ⟨by simp [e], h1, by simp; omega⟩
theorem seg_get {l : List AV} {i n : Nat} {s : List AV} (h : seg l i n = some s) {j : Nat} (hj : j < n) : s[j]? = l[i + j]? := by
  obtain ⟨e, h1, h2⟩ := seg_spec l i n s h
  rw [e, List.getElem?_take, if_pos hj, List.getElem?_drop]
theorem RelL.drop {μ : Mu} {l : List AV} {vs : List Value} (h : RelL σ μ l vs) (i : Nat) : RelL σ μ (l.drop i) (vs.drop i) :=
  RelL.of (by simp [h.len]) fun j a hj => by rw [List.getElem?_drop] at hj ⊢; exact h.get _ _ hj
theorem RelL.take {μ : Mu} {l : List AV} {vs : List Value} (h : RelL σ μ l vs) (i : Nat) : RelL σ μ (l.take i) (vs.take i) :=
  RelL.of (by simp [h.len]) fun j a hj => by
    rw [List.getElem?_take] at hj ⊢
    split at hj
    · rename_i hh; rw [if_pos hh]; exact h.get _ _ hj
    · cases hj
theorem lay_spec : ∀ (l : List AV) (i : Nat) (ys r : List AV), lay l i ys = some r → i ≤ l.length ∧ r.length = max l.length (i + ys.length) ∧ ∀ j, r[j]? = if i ≤ j ∧ j < i + ys.length then ys[j - i]? else l[j]?
  | l, 0, [], r, h => by
    simp only [lay] at h; cases h
    refine ⟨Nat.zero_le _, by simp, fun j => by rw [if_neg (by simp)]⟩
  | [], 0, y :: ys, r, h => by
    simp only [lay] at h; cases h
    refine ⟨Nat.zero_le _, by simp, fun j => ?_⟩
    by_cases hj : j < (y :: ys).length
    · rw [if_pos ⟨Nat.zero_le _, by omega⟩]; rfl
    · rw [if_neg (by omega), List.getElem?_eq_none (by omega)]; rfl
  | x :: xs, 0, y :: ys, r, h => by
    simp only [lay] at h
    split at h
    · rename_i r' hr
      cases h
      obtain ⟨_, h1, h2⟩ := lay_spec xs 0 ys r' hr
      refine ⟨Nat.zero_le _, by simp only [List.length_cons, h1]; omega, fun j => ?_⟩
      cases j with
      | zero => simp
      | succ j =>
        rw [List.getElem?_cons_succ, h2]
        by_cases hj : j < ys.length
        · rw [if_pos ⟨Nat.zero_le _, by omega⟩, if_pos ⟨Nat.zero_le _, by simp; omega⟩]; simp
        · rw [if_neg (by omega), if_neg (by simp; omega)]; simp
    · cases h
  | [], i + 1, ys, r, h => by simp [lay] at h
  | x :: xs, i + 1, ys, r, h => by
    simp only [lay] at h
    split at h
    · rename_i r' hr
      cases h
      obtain ⟨h0, h1, h2⟩ := lay_spec xs i ys r' hr
      refine ⟨by simp; omega, by simp only [List.length_cons, h1]; omega, fun j => ?_⟩
      cases j with
      | zero => rw [if_neg (by omega)]; simp
      | succ j =>
        rw [List.getElem?_cons_succ, h2]
        by_cases hj : i ≤ j ∧ j < i + ys.length
        · rw [if_pos hj, if_pos (by omega), show j + 1 - (i + 1) = j - i by omega]
        · rw [if_neg hj, if_neg (by omega)]; simp
    · cases h
/-- Values of one cell. -/
def Syms (σ : Nat → Value) : Prop := ∀ n, (σ n).oneCell' = true
theorem cells_one {v : Value} (h : v.oneCell' = true) : v.cells.toList = [v] := by cases v <;> first | rfl | (simp [Value.oneCell'] at h)
theorem Rel.cells {μ : Mu} (hσ : Syms σ) : ∀ {a : AV} {v : Value}, Rel σ μ a v → RelL σ μ (cellsA a) v.cells.toList
  | .bool _, _, h => by cases h; exact .cons rfl .nil
  | .int _ _, _, h => by cases h; exact .cons rfl .nil
  | .str _, _, h => by obtain ⟨ba, rfl, e⟩ := h; exact .cons ⟨ba, rfl, e⟩ .nil
  | .ptr none, _, h => by cases h; exact .cons rfl .nil
  | .ptr (some q), _, h => by obtain ⟨p, hp, rfl⟩ := h; exact .cons ⟨p, hp, rfl⟩ .nil
  | .glob _ _, _, h => by cases h; exact .cons rfl .nil
  | .slice none _ _ _, _, h => by obtain ⟨h0, rfl⟩ := h; exact .cons ⟨h0, rfl⟩ .nil
  | .slice (some q) _ _ _, _, h => by obtain ⟨p, cp, ad, hp, rfl, h⟩ := h; exact .cons ⟨p, cp, ad, hp, rfl, h⟩ .nil
  | .map none, _, h => by cases h; exact .cons rfl .nil
  | .map (some x), _, h => by obtain ⟨p, hp, rfl⟩ := h; exact .cons ⟨p, hp, rfl⟩ .nil
  | .func _ _ _, _, h => by obtain ⟨f', c', rfl, h⟩ := h; exact .cons ⟨f', c', rfl, h⟩ .nil
  | .nilFunc, _, h => by cases h; exact .cons rfl .nil
  | .iface _ _, _, h => by obtain ⟨v', rfl, h⟩ := h; exact .cons ⟨v', rfl, h⟩ .nil
  | .nilIface, _, h => by cases h; exact .cons rfl .nil
  | .agg _, _, h => by obtain ⟨xs, rfl, h⟩ := h; exact h
  | .tuple _, _, h => by obtain ⟨xs, rfl, h⟩ := h; exact .cons ⟨xs, rfl, h⟩ .nil
  | .sym n, _, h => by
    have e : _ = σ n := h
    rw [e, cells_one (hσ n)]; exact .cons rfl .nil
theorem Rel.one {μ : Mu} (hσ : Syms σ) {a : AV} {v : Value} (h : Rel σ μ a v) (h1 : allOne [a] = true) : v.oneCell' = true := by
  cases a with
  | str s => obtain ⟨ba, rfl, _⟩ := h; rfl
  | ptr a => cases a with
    | none => cases h; rfl
    | some q => obtain ⟨p, hp, rfl⟩ := h; rfl
  | slice a n sz cap => cases a with
    | none => obtain ⟨_, rfl⟩ := h; rfl
    | some q => obtain ⟨p, cp, ad, hp, rfl, h⟩ := h; rfl
  | map a => cases a with
    | none => cases h; rfl
    | some q => obtain ⟨p, hp, rfl⟩ := h; rfl
  | func fn f c => obtain ⟨f', c', rfl, h⟩ := h; rfl
  | iface t a => obtain ⟨v', rfl, h⟩ := h; rfl
  | agg cs => simp [allOne] at h1
  | tuple cs => simp [allOne] at h1
  | sym n => have e : _ = σ n := h; rw [e]; exact hσ n
  | _ => cases h; rfl
theorem allOne_mem {l : List AV} (h : allOne l = true) : ∀ a ∈ l, allOne [a] = true := by
  induction l with
  | nil => intro a ha; cases ha
  | cons x l ih =>
    intro a ha
    rcases List.mem_cons.1 ha with rfl | ha
    · cases a <;> first | rfl | (simp [allOne] at h)
    · exact ih (by cases x <;> first | exact h | (simp [allOne] at h)) a ha
theorem RelL.ones {μ : Mu} (hσ : Syms σ) {l : List AV} {vs : List Value} (h : RelL σ μ l vs) (h1 : allOne l = true) : ∀ v ∈ vs, v.oneCell' = true := by
  intro v hv
  obtain ⟨i, hi⟩ := List.mem_iff_getElem?.1 hv
  have hlt : i < l.length := by rw [← h.len]; exact (List.getElem?_eq_some_iff.1 hi).1
  obtain ⟨v', e, hr⟩ := h.get i l[i] (List.getElem?_eq_getElem hlt)
  rw [hi] at e; cases e
  exact hr.one hσ (allOne_mem h1 _ (List.getElem_mem _))
mutual
theorem absV_rel {μ : Mu} : ∀ (v : Value) (a : AV), absV v = some a → Rel σ μ a v
  | .bool b, a, h => by simp only [absV] at h; cases h; rfl
  | .int k n, a, h => by simp only [absV] at h; cases h; rfl
  | .string s, a, h => by simp only [absV] at h; cases h; exact ⟨s, rfl, rfl⟩
  | .pointer none, a, h => by simp only [absV] at h; cases h; rfl
  | .pointer (some _), a, h => by simp [absV] at h
  | .slice none 0 0, a, h => by simp only [absV] at h; cases h; exact ⟨rfl, rfl⟩
  | .slice none (_ + 1) _, a, h => by simp [absV] at h
  | .slice none 0 (_ + 1), a, h => by simp [absV] at h
  | .slice (some _) _ _, a, h => by simp [absV] at h
  | .map none, a, h => by simp only [absV] at h; cases h; rfl
  | .map (some _), a, h => by simp [absV] at h
  | .func fn ⟨f⟩ ⟨c⟩, a, h => by
    cases fn <;> cases f <;> cases c <;> first | (simp only [absV] at h; cases h; exact ⟨_, _, rfl, rfl, rfl⟩) | (simp [absV] at h)
  | .nilFunc, a, h => by simp only [absV] at h; cases h; rfl
  | .nilIface, a, h => by simp only [absV] at h; cases h; rfl
  | .iface t v, a, h => by
    simp only [absV] at h
    split at h
    · rename_i b hb; cases h; exact ⟨v, rfl, absV_rel v b hb⟩
    · cases h
  | .agg ⟨cs⟩, a, h => by
    simp only [absV] at h
    split at h
    · rename_i b hb; cases h; exact ⟨⟨cs⟩, rfl, absVs_rel cs b hb⟩
    · cases h
  | .tuple ⟨cs⟩, a, h => by
    simp only [absV] at h
    split at h
    · rename_i b hb; cases h; exact ⟨⟨cs⟩, rfl, absVs_rel cs b hb⟩
    · cases h
  | .float _ _, a, h => by simp [absV] at h
  | .complex _ _ _, a, h => by simp [absV] at h
  | .chan _, a, h => by simp [absV] at h
theorem absVs_rel {μ : Mu} : ∀ (vs : List Value) (l : List AV), absVs vs = some l → RelL σ μ l vs
  | [], l, h => by simp only [absVs] at h; cases h; rfl
  | v :: vs, l, h => by
    simp only [absVs] at h
    split at h
    · rename_i a ha
      split at h
      · rename_i m hm; cases h; exact .cons (absV_rel v a ha) (absVs_rel vs m hm)
      · cases h
    · cases h
end
end
end Ev
end

section
namespace Ev
open Go Go.RowKit
set_option linter.unusedVariables false
abbrev Hp := Nat → Option AObj
def upd {α : Type} (h : Nat → Option α) (x : Nat) (o : α) : Nat → Option α := fun y => if y = x then some o else h y
theorem upd_same {α : Type} (h : Nat → Option α) (x : Nat) (o : α) : upd h x o x = some o := by simp [upd]
theorem upd_ne {α : Type} (h : Nat → Option α) {x y : Nat} (o : α) (e : y ≠ x) : upd h x o y = h y := by simp [upd, e]
theorem look_upd {α : Type} (h : T α) (x : Nat) (o : α) : (h.put o x).look = upd h.look x o := by funext y; rw [T.look_put]; rfl
def Alive (h : Hp) : Option Nat → Prop
  | none => True
  | some g => ∃ l, h g = some (.grp l)
def LiveO (h : Hp) : AObj → Prop
  | .row _ g => Alive h g
  | .map _ _ => True
  | .siter _ _ => True
  | .miter _ _ _ _ => True
  | .grp _ => False
  | .dead => False
def grpOf : AObj → Option Nat
  | .row _ g => g
  | _ => none
def killO (h : Hp) : Option Nat → Hp
  | none => h
  | some g => upd h g .dead
section
variable (σ : Nat → Value)
structure RowAt (μ : Mu) (w : World) (p : Place) (cs : List AV) : Prop where
  fits : cs.length ≤ p.r
  there : ∀ i, i < p.r → (w.cell? ⟨p.b, p.o + i, none⟩).isSome = true ∧ w.frozen? ⟨p.b, p.o + i, none⟩ = false
  tells : ∀ (i : Nat) (a : AV), cs[i]? = some a → ∃ v, w.cell? ⟨p.b, p.o + i, none⟩ = some v ∧ Rel σ μ a v ∧ v.oneCell' = true
def EntL (μ : Mu) : List (AV × AV × Nat) → List MapEntry → Prop
  | [], l => l = []
  | e :: es, l => ∃ f fs, l = f :: fs ∧ Rel σ μ e.1 f.key ∧ Rel σ μ e.2.1 f.val ∧ f.born = e.2.2 ∧ EntL μ es fs
def ObjAt (μ : Mu) (w : World) (p : Place) : AObj → Prop
  | .row cs _ => RowAt σ μ w p cs
  | .map es ck => ∃ es', w.heap[p.b]? = some (.map es' ck) ∧ EntL σ μ es es'.toList
  | .siter s pos => ∃ ba, w.heap[p.b]? = some (.stringIter ba pos) ∧ bytesN ba = s
  | .miter m since seen st => ∃ m', w.heap[p.b]? = some (.mapIter m' since seen.toArray st) ∧ (match m with | none => m' = none | some x => ∃ q, μ x = some q ∧ m' = some q.b)
  | _ => True
/-- The plain memory tells the world's, from block B on; below B the world is as w0. -/
structure Inv (B : Nat) (w0 : World) (μ : Mu) (h : Hp) (w : World) : Prop where
  hB : B ≤ w0.heap.size
  below : Below B w0 w
  base : ∀ x p, μ x = some p → B ≤ p.b ∧ p.b < w.heap.size
  dom : ∀ x p, μ x = some p → h x ≠ none
  tag : ∀ x cs g, h x = some (.row cs (some g)) → h g ≠ none
  obj : ∀ x o, h x = some o → LiveO h o → ∃ p, μ x = some p ∧ ObjAt σ μ w p o
  apart : ∀ x y p q ox oy, x ≠ y → μ x = some p → μ y = some q → h x = some ox → h y = some oy → LiveO h ox → LiveO h oy → p.b = q.b → ∃ g, grpOf ox = some g ∧ grpOf oy = some g
  grp : ∀ g l z csz csl pz pl, h g = some (.grp l) → h z = some (.row csz (some g)) → h l = some (.row csl (some g)) → μ z = some pz → μ l = some pl → pz.b = pl.b → pz.o + csz.length ≤ pl.o + csl.length
variable {σ}
theorem EntL.mono {μ μ' : Mu} (hμ : Ext μ μ') : ∀ {es : List (AV × AV × Nat)} {l : List MapEntry}, EntL σ μ es l → EntL σ μ' es l
  | [], _, h => h
  | e :: es, _, ⟨f, fs, e1, h1, h2, h3, h4⟩ => ⟨f, fs, e1, Rel.mono hμ _ _ h1, Rel.mono hμ _ _ h2, h3, EntL.mono hμ h4⟩
theorem RowAt.move {μ μ' : Mu} {w w' : World} {p : Place} {cs : List AV} (h : RowAt σ μ w p cs) (hμ : Ext μ μ') (hw : w'.heap[p.b]? = w.heap[p.b]?) : RowAt σ μ' w' p cs :=
  ⟨h.fits, fun i hi => by rw [World.cell?_of_block (w := w) hw, World.frozen?_of_block (w := w) hw]; exact h.there i hi,
    fun i a ha => let ⟨v, h1, h2, h3⟩ := h.tells i a ha; ⟨v, by rw [World.cell?_of_block (w := w) hw]; exact h1, Rel.mono hμ _ _ h2, h3⟩⟩
theorem ObjAt.move {μ μ' : Mu} {w w' : World} {p : Place} {o : AObj} (h : ObjAt σ μ w p o) (hμ : Ext μ μ') (hw : w'.heap[p.b]? = w.heap[p.b]?) : ObjAt σ μ' w' p o := by
  cases o with
  | row cs g => exact RowAt.move h hμ hw
  | map es ck => obtain ⟨es', h1, h2⟩ := h; exact ⟨es', hw.trans h1, h2.mono hμ⟩
  | siter s pos => obtain ⟨ba, h1, h2⟩ := h; exact ⟨ba, hw.trans h1, h2⟩
  | miter m since seen st =>
    obtain ⟨m', h1, h2⟩ := h
    refine ⟨m', hw.trans h1, ?_⟩
    cases m with
    | none => exact h2
    | some x => obtain ⟨q, hq, e⟩ := h2; exact ⟨q, hμ _ _ hq, e⟩
  | grp l => trivial
  | dead => trivial
section
variable {B : Nat} {w0 w w' : World} {μ μ' : Mu} {h h' : Hp}
/-- Nothing has turned in memory. -/
theorem Inv.still (I : Inv σ B w0 μ h w) (hb : Below B w0 w') (hh : w'.heap = w.heap) : Inv σ B w0 μ h w' :=
  ⟨I.hB, hb, fun x p hp => by rw [hh]; exact I.base x p hp, I.dom, I.tag, fun x o hx hl => let ⟨p, hp, ho⟩ := I.obj x o hx hl; ⟨p, hp, ho.move (fun _ _ h => h) (by rw [hh])⟩, I.apart, I.grp⟩
theorem Inv.drew (I : Inv σ B w0 μ h w) : Inv σ B w0 μ h w.drew := I.still I.below.drew rfl
theorem upd_some {α : Type} {h : Nat → Option α} {x : Nat} {o : α} {y : Nat} (hy : h y ≠ none) : upd h x o y ≠ none := by
  by_cases e : y = x
  · subst e; rw [upd_same]; simp
  · rw [upd_ne _ _ e]; exact hy
theorem kill_some {h : Hp} {g : Option Nat} {y : Nat} (hy : h y ≠ none) : killO h g y ≠ none := by
  cases g with
  | none => exact hy
  | some g => exact upd_some hy
theorem Inv.unmapped (I : Inv σ B w0 μ h w) {x : Nat} (hx : h x = none) : μ x = none := by
  cases e : μ x with
  | none => rfl
  | some p => exact absurd hx (I.dom x p e)
/-- A new object in a block of its own. -/
theorem Inv.alloc (I : Inv σ B w0 μ h w) {c : Nat} (hhc : h c = none) {o : AObj} (hlo : ∀ h, LiveO h o) (hgo : grpOf o = none) (hng : ∀ l, o ≠ .grp l) {ob : Obj} {r : Nat}
    (ho : ObjAt σ (upd μ c ⟨w.heap.size, 0, r⟩) (w.alloc ob) ⟨w.heap.size, 0, r⟩ o) : Inv σ B w0 (upd μ c ⟨w.heap.size, 0, r⟩) (upd h c o) (w.alloc ob) := by
  have hc := I.unmapped hhc
  have hBw : B ≤ w.heap.size := Nat.le_trans I.hB I.below.size
  have hsz : (w.alloc ob).heap.size = w.heap.size + 1 := Array.size_push _
  have hext : Ext μ (upd μ c ⟨w.heap.size, 0, r⟩) := fun x p hp => by
    rw [upd_ne]
    · exact hp
    · rintro rfl; rw [hc] at hp; cases hp
  have lv : ∀ y oy, y ≠ c → upd h c o y = some oy → LiveO (upd h c o) oy → h y = some oy ∧ LiveO h oy := fun y oy hy h1 h2 => by
    rw [upd_ne _ _ hy] at h1
    refine ⟨h1, ?_⟩
    cases oy with
    | row cs g =>
      cases g with
      | none => trivial
      | some g =>
        obtain ⟨l, hl⟩ := h2
        by_cases e : g = c
        · subst e; rw [upd_same] at hl; cases hl; exact (hng _ rfl).elim
        · rw [upd_ne _ _ e] at hl; exact ⟨l, hl⟩
    | grp l => exact h2
    | dead => exact h2
    | _ => trivial
  refine ⟨I.hB, I.below.alloc hBw _, fun x p hp => ?_, fun x p hp => ?_, fun x cs g hx => ?_, fun x ox hx hl => ?_, fun x y p q ox oy hxy hp hq hx hy lx ly hb => ?_, fun g l z csz csl pz pl h1 h2 h3 hz hl hb => ?_⟩
  · by_cases e : x = c
    · subst e; rw [upd_same] at hp; cases hp; exact ⟨hBw, by rw [hsz]; simp⟩
    · rw [upd_ne _ _ e] at hp; have := I.base x p hp; exact ⟨this.1, by rw [hsz]; omega⟩
  · by_cases e : x = c
    · subst e; rw [upd_same]; simp
    · rw [upd_ne _ _ e] at hp; exact upd_some (I.dom x p hp)
  · by_cases e : x = c
    · subst e; rw [upd_same] at hx; cases hx; cases hgo
    · rw [upd_ne _ _ e] at hx; exact upd_some (I.tag x cs g hx)
  · by_cases e : x = c
    · subst e; rw [upd_same] at hx; cases hx; exact ⟨_, upd_same .., ho⟩
    · obtain ⟨h1, h2⟩ := lv x ox e hx hl
      obtain ⟨p, hp, hob⟩ := I.obj x ox h1 h2
      exact ⟨p, hext _ _ hp, hob.move hext (Below.heap_alloc _ _ _ (I.base x p hp).2)⟩
  · by_cases e : x = c
    · subst e
      rw [upd_same] at hp; cases hp
      rw [upd_ne _ _ (Ne.symm hxy)] at hq
      have := (I.base y q hq).2
      have : w.heap.size = q.b := hb
      omega
    · by_cases e' : y = c
      · subst e'
        rw [upd_same] at hq; cases hq
        rw [upd_ne _ _ e] at hp
        have := (I.base x p hp).2
        have : p.b = w.heap.size := hb
        omega
      · obtain ⟨h1, h2⟩ := lv x ox e hx lx
        obtain ⟨h3, h4⟩ := lv y oy e' hy ly
        rw [upd_ne _ _ e] at hp
        rw [upd_ne _ _ e'] at hq
        exact I.apart x y p q ox oy hxy hp hq h1 h3 h2 h4 hb
  · have eg : g ≠ c := by rintro rfl; rw [upd_same] at h1; cases h1; exact hng _ rfl
    have ez : z ≠ c := by rintro rfl; rw [upd_same] at h2; cases h2; cases hgo
    have el : l ≠ c := by rintro rfl; rw [upd_same] at h3; cases h3; cases hgo
    rw [upd_ne _ _ eg] at h1; rw [upd_ne _ _ ez] at h2 hz; rw [upd_ne _ _ el] at h3 hl
    exact I.grp g l z csz csl pz pl h1 h2 h3 hz hl hb
theorem live_kill {g : Option Nat} {x : Nat} {o : AObj} {o' : AObj} (hno : ∀ l, o' ≠ .grp l) (hx : ∀ g', g = some g' → g' ≠ x) {y : Nat} {oy : AObj} (hy : y ≠ x) (h1 : upd (killO h g) x o' y = some oy) (h2 : LiveO (upd (killO h g) x o') oy) :
    h y = some oy ∧ LiveO h oy ∧ (∀ g', g = some g' → grpOf oy ≠ some g') := by
  rw [upd_ne _ _ hy] at h1
  cases g with
  | none =>
    refine ⟨h1, ?_, fun g' e => by cases e⟩
    cases oy with
    | row cs gg =>
      cases gg with
      | none => trivial
      | some gg =>
        obtain ⟨l, hl⟩ := h2
        by_cases e : gg = x
        · subst e; rw [upd_same] at hl; cases hl; exact (hno _ rfl).elim
        · rw [upd_ne _ _ e] at hl; exact ⟨l, hl⟩
    | grp l => exact h2
    | dead => exact h2
    | _ => trivial
  | some g0 =>
    have eg : y ≠ g0 := by
      rintro rfl
      simp only [killO] at h1
      rw [upd_same] at h1; cases h1; exact h2
    simp only [killO] at h1 h2
    rw [upd_ne _ _ eg] at h1
    refine ⟨h1, ?_, ?_⟩
    · cases oy with
      | row cs gg =>
        cases gg with
        | none => trivial
        | some gg =>
          obtain ⟨l, hl⟩ := h2
          by_cases e : gg = x
          · subst e; rw [upd_same] at hl; cases hl; exact (hno _ rfl).elim
          · rw [upd_ne _ _ e] at hl
            by_cases e' : gg = g0
            · subst e'; rw [upd_same] at hl; cases hl
            · rw [upd_ne _ _ e'] at hl; exact ⟨l, hl⟩
      | grp l => exact h2
      | dead => exact h2
      | _ => trivial
    · intro g' e hg
      cases e
      cases oy with
      | row cs gg =>
        simp only [grpOf] at hg
        subst hg
        obtain ⟨l, hl⟩ := h2
        rw [upd_ne _ _ (hx _ rfl), upd_same] at hl
        cases hl
      | _ => cases hg
theorem grp_kill {g : Option Nat} {x : Nat} {o' : AObj} (hno : ∀ l, o' ≠ .grp l) {y l : Nat} (h1 : upd (killO h g) x o' y = some (.grp l)) : h y = some (.grp l) ∧ y ≠ x := by
  have e : y ≠ x := by rintro rfl; rw [upd_same] at h1; cases h1; exact (hno _ rfl).elim
  rw [upd_ne _ _ e] at h1
  refine ⟨?_, e⟩
  cases g with
  | none => exact h1
  | some g0 =>
    simp only [killO] at h1
    by_cases e' : y = g0
    · subst e'; rw [upd_same] at h1; cases h1
    · rw [upd_ne _ _ e'] at h1; exact h1
theorem grp_ne {x : Nat} {cs : List AV} {g : Option Nat} (hx : h x = some (.row cs g)) (hl : Alive h g) : ∀ g', g = some g' → g' ≠ x := by
  rintro g' rfl rfl
  obtain ⟨l, hl⟩ := hl
  rw [hx] at hl; cases hl
/-- A row is written: those that may share its memory are given up. -/
theorem tag_kill (I : Inv σ B w0 μ h w) {g : Option Nat} {x : Nat} {o' : AObj} (hg : grpOf o' = none) (y : Nat) (cs : List AV) (g' : Nat) (hy : upd (killO h g) x o' y = some (.row cs (some g'))) : upd (killO h g) x o' g' ≠ none := by
  by_cases e : y = x
  · subst e; rw [upd_same] at hy; cases hy; cases hg
  · rw [upd_ne _ _ e] at hy
    cases g with
    | none => exact upd_some (I.tag y cs g' hy)
    | some g0 =>
      simp only [killO] at hy ⊢
      by_cases e' : y = g0
      · subst e'; rw [upd_same] at hy; cases hy
      · rw [upd_ne _ _ e'] at hy; exact upd_some (upd_some (I.tag y cs g' hy))
theorem Inv.write (I : Inv σ B w0 μ h w) {x : Nat} {cs : List AV} {g : Option Nat} {p : Place} (hx : h x = some (.row cs g)) (hl : Alive h g) (hp : μ x = some p) {cs' : List AV} (hb : Below B w0 w') (hsz : w'.heap.size = w.heap.size)
    (hw : ∀ i, i < w.heap.size → i ≠ p.b → w'.heap[i]? = w.heap[i]?) (hr : RowAt σ μ w' p cs') : Inv σ B w0 μ (upd (killO h g) x (.row cs' none)) w' := by
  have hne := grp_ne hx hl
  have hno : ∀ l, AObj.row cs' none ≠ .grp l := fun l e => by cases e
  have off : ∀ y oy q, y ≠ x → h y = some oy → LiveO h oy → (∀ g', g = some g' → grpOf oy ≠ some g') → μ y = some q → q.b ≠ p.b := fun y oy q hy h1 h2 h3 hq hb => by
    obtain ⟨g', e1, e2⟩ := I.apart x y p q _ _ (Ne.symm hy) hp hq hx h1 hl h2 hb.symm
    exact h3 g' e1 e2
  refine ⟨I.hB, hb, fun x p hp => by rw [hsz]; exact I.base x p hp, fun z r hz => upd_some (kill_some (I.dom z r hz)), tag_kill I rfl, fun y oy hy ly => ?_, fun y z q r oy oz hyz hq hr hy hz ly lz hbb => ?_, fun g' l z csz csl pz pl h1 h2 h3 hz hl hb => ?_⟩
  · by_cases e : y = x
    · subst e; rw [upd_same] at hy; cases hy; exact ⟨p, hp, hr⟩
    · obtain ⟨h1, h2, h3⟩ := live_kill (o := .row cs g) hno hne e hy ly
      obtain ⟨q, hq, ho⟩ := I.obj y oy h1 h2
      exact ⟨q, hq, ho.move (fun _ _ h => h) (hw _ (I.base y q hq).2 (off y oy q e h1 h2 h3 hq))⟩
  · by_cases e : y = x
    · subst e
      rw [hp] at hq; cases hq
      obtain ⟨h1, h2, h3⟩ := live_kill (o := .row cs g) hno hne (Ne.symm hyz) hz lz
      exact absurd hbb.symm (off z oz r (Ne.symm hyz) h1 h2 h3 hr)
    · by_cases e' : z = x
      · subst e'
        rw [hp] at hr; cases hr
        obtain ⟨h1, h2, h3⟩ := live_kill (o := .row cs g) hno hne e hy ly
        exact absurd hbb (off y oy q e h1 h2 h3 hq)
      · obtain ⟨h1, h2, _⟩ := live_kill (o := .row cs g) hno hne e hy ly
        obtain ⟨h3, h4, _⟩ := live_kill (o := .row cs g) hno hne e' hz lz
        exact I.apart y z q r oy oz hyz hq hr h1 h3 h2 h4 hbb
  · obtain ⟨e1, _⟩ := grp_kill hno h1
    have ez : z ≠ x := by rintro rfl; rw [upd_same] at h2; cases h2
    have el : l ≠ x := by rintro rfl; rw [upd_same] at h3; cases h3
    obtain ⟨h4, _, _⟩ := live_kill (o := .row cs g) hno hne ez h2 ⟨l, h1⟩
    obtain ⟨h5, _, _⟩ := live_kill (o := .row cs g) hno hne el h3 ⟨l, h1⟩
    exact I.grp g' l z csz csl pz pl e1 h4 h5 hz hl hb
/-- An object of another kind is set anew. -/
theorem Inv.setO (I : Inv σ B w0 μ h w) {x : Nat} {o o' : AObj} {p : Place} (hx : h x = some o) (hl : LiveO h o) (hg : grpOf o = none) (hp : μ x = some p) (hno : ∀ l, o' ≠ .grp l) (hg' : grpOf o' = none) (hb : Below B w0 w') (hsz : w'.heap.size = w.heap.size)
    (hw : ∀ i, i < w.heap.size → i ≠ p.b → w'.heap[i]? = w.heap[i]?) (hr : ObjAt σ μ w' p o') : Inv σ B w0 μ (upd h x o') w' := by
  have hne : ∀ g', (none : Option Nat) = some g' → g' ≠ x := fun _ e => by cases e
  have off : ∀ y oy q, y ≠ x → h y = some oy → LiveO h oy → μ y = some q → q.b ≠ p.b := fun y oy q hy h1 h2 hq hb => by
    obtain ⟨g', e1, e2⟩ := I.apart x y p q _ _ (Ne.symm hy) hp hq hx h1 hl h2 hb.symm
    rw [hg] at e1; cases e1
  refine ⟨I.hB, hb, fun x p hp => by rw [hsz]; exact I.base x p hp, fun z r hz => upd_some (I.dom z r hz), tag_kill (g := .none) I hg', fun y oy hy ly => ?_, fun y z q r oy oz hyz hq hr hy hz ly lz hbb => ?_, fun g' l z csz csl pz pl h1 h2 h3 hz hl hb => ?_⟩
  · by_cases e : y = x
    · subst e; rw [upd_same] at hy; cases hy; exact ⟨p, hp, hr⟩
    · obtain ⟨h1, h2, _⟩ := live_kill (g := none) (o := o) hno hne e hy ly
      obtain ⟨q, hq, ho⟩ := I.obj y oy h1 h2
      exact ⟨q, hq, ho.move (fun _ _ h => h) (hw _ (I.base y q hq).2 (off y oy q e h1 h2 hq))⟩
  · by_cases e : y = x
    · subst e
      rw [hp] at hq; cases hq
      obtain ⟨h1, h2, _⟩ := live_kill (g := none) (o := o) hno hne (Ne.symm hyz) hz lz
      exact absurd hbb.symm (off z oz r (Ne.symm hyz) h1 h2 hr)
    · by_cases e' : z = x
      · subst e'
        rw [hp] at hr; cases hr
        obtain ⟨h1, h2, _⟩ := live_kill (g := none) (o := o) hno hne e hy ly
        exact absurd hbb (off y oy q e h1 h2 hq)
      · obtain ⟨h1, h2, _⟩ := live_kill (g := none) (o := o) hno hne e hy ly
        obtain ⟨h3, h4, _⟩ := live_kill (g := none) (o := o) hno hne e' hz lz
        exact I.apart y z q r oy oz hyz hq hr h1 h3 h2 h4 hbb
  · obtain ⟨e1, _⟩ := grp_kill (g := none) hno h1
    have ez : z ≠ x := by rintro rfl; rw [upd_same] at h2; cases h2; cases hg'
    have el : l ≠ x := by rintro rfl; rw [upd_same] at h3; cases h3; cases hg'
    obtain ⟨h4, _, _⟩ := live_kill (g := none) (o := o) hno hne ez h2 ⟨l, h1⟩
    obtain ⟨h5, _, _⟩ := live_kill (g := none) (o := o) hno hne el h3 ⟨l, h1⟩
    exact I.grp g' l z csz csl pz pl e1 h4 h5 hz hl hb
/-- A row's memory, or new memory, is taken over by a new row; the old one and those that may share with it are given up. -/
theorem Inv.take (I : Inv σ B w0 μ h w) {x y : Nat} {cs ys : List AV} {g : Option Nat} {p q : Place} (hx : h x = some (.row cs g)) (hl : Alive h g) (hp : μ x = some p) (hhy : h y = none) (hb : Below B w0 w') (hsz : w.heap.size ≤ w'.heap.size)
    (hw : ∀ i, i < w.heap.size → i ≠ p.b → w'.heap[i]? = w.heap[i]?) (hq : q.b = p.b ∨ w.heap.size ≤ q.b) (hqb : q.b < w'.heap.size) (hr : RowAt σ (upd μ y q) w' q ys) :
    Inv σ B w0 (upd μ y q) (upd (upd (killO h g) x .dead) y (.row ys none)) w' := by
  have hy := I.unmapped hhy
  have hxy : x ≠ y := by rintro rfl; rw [hp] at hy; cases hy
  have hne := grp_ne hx hl
  have hno : ∀ l, AObj.dead ≠ .grp l := fun l e => by cases e
  have hno' : ∀ l, AObj.row ys none ≠ .grp l := fun l e => by cases e
  have hext : Ext μ (upd μ y q) := fun z r hz => by
    rw [upd_ne]
    · exact hz
    · rintro rfl; rw [hy] at hz; cases hz
  have lv : ∀ z oz, z ≠ y → upd (upd (killO h g) x .dead) y (.row ys none) z = some oz → LiveO (upd (upd (killO h g) x .dead) y (.row ys none)) oz → z ≠ x ∧ h z = some oz ∧ LiveO h oz ∧ (∀ g', g = some g' → grpOf oz ≠ some g') := fun z oz hz h1 h2 => by
    obtain ⟨h3, h4, _⟩ := live_kill (h := upd (killO h g) x .dead) (g := none) (o := .dead) hno' (fun _ e => by cases e) hz h1 h2
    have e : z ≠ x := by rintro rfl; rw [upd_same] at h3; cases h3; exact h4
    obtain ⟨h5, h6, h7⟩ := live_kill (o := .row cs g) hno hne e h3 h4
    exact ⟨e, h5, h6, h7⟩
  have off : ∀ z oz r, z ≠ x → h z = some oz → LiveO h oz → (∀ g', g = some g' → grpOf oz ≠ some g') → μ z = some r → r.b ≠ p.b := fun z oz r hz h1 h2 h3 hr hb => by
    obtain ⟨g', e1, e2⟩ := I.apart x z p r _ _ (Ne.symm hz) hp hr hx h1 hl h2 hb.symm
    exact h3 g' e1 e2
  have pb := I.base x p hp
  have offq : ∀ z oz r, z ≠ x → h z = some oz → LiveO h oz → (∀ g', g = some g' → grpOf oz ≠ some g') → μ z = some r → r.b ≠ q.b := fun z oz r hz h1 h2 h3 hr hb => by
    rcases hq with e | e
    · exact off z oz r hz h1 h2 h3 hr (hb.trans e)
    · have := (I.base z r hr).2; omega
  refine ⟨I.hB, hb, fun z r hz => ?_, fun z r hz => ?_, fun z cz gz hz => ?_, fun z oz hz lz => ?_, fun z t r s oz ot hzt hr hs hz ht lz lt hbb => ?_, fun g' l z csz csl pz pl h1 h2 h3 hz hl hb => ?_⟩
  · by_cases e : z = y
    · subst e; rw [upd_same] at hz; cases hz
      refine ⟨?_, hqb⟩
      rcases hq with e | e
      · rw [e]; exact pb.1
      · exact Nat.le_trans (Nat.le_trans I.hB I.below.size) e
    · rw [upd_ne _ _ e] at hz; have := I.base z r hz; exact ⟨this.1, by omega⟩
  · by_cases e : z = y
    · subst e; rw [upd_same]; simp
    · rw [upd_ne _ _ e] at hz; exact upd_some (upd_some (kill_some (I.dom z r hz)))
  · by_cases e : z = y
    · subst e; rw [upd_same] at hz; cases hz
    · rw [upd_ne _ _ e] at hz; exact upd_some (tag_kill I rfl z cz gz hz)
  · by_cases e : z = y
    · subst e; rw [upd_same] at hz; cases hz; exact ⟨q, upd_same .., hr⟩
    · obtain ⟨h0, h1, h2, h3⟩ := lv z oz e hz lz
      obtain ⟨r, hr, ho⟩ := I.obj z oz h1 h2
      exact ⟨r, hext _ _ hr, ho.move hext (hw _ (I.base z r hr).2 (off z oz r h0 h1 h2 h3 hr))⟩
  · by_cases e : z = y
    · subst e
      rw [upd_same] at hr; cases hr
      obtain ⟨h0, h1, h2, h3⟩ := lv t ot (Ne.symm hzt) ht lt
      rw [upd_ne _ _ (Ne.symm hzt)] at hs
      exact absurd hbb.symm (offq t ot s h0 h1 h2 h3 hs)
    · by_cases e' : t = y
      · subst e'
        rw [upd_same] at hs; cases hs
        obtain ⟨h0, h1, h2, h3⟩ := lv z oz e hz lz
        rw [upd_ne _ _ e] at hr
        exact absurd hbb (offq z oz r h0 h1 h2 h3 hr)
      · obtain ⟨_, h1, h2, _⟩ := lv z oz e hz lz
        obtain ⟨_, h3, h4, _⟩ := lv t ot e' ht lt
        rw [upd_ne _ _ e] at hr
        rw [upd_ne _ _ e'] at hs
        exact I.apart z t r s oz ot hzt hr hs h1 h3 h2 h4 hbb
  · obtain ⟨e1, _⟩ := grp_kill (h := upd (killO h g) x .dead) (g := none) hno' h1
    obtain ⟨e1, _⟩ := grp_kill hno e1
    have ez : z ≠ y := by rintro rfl; rw [upd_same] at h2; cases h2
    have el : l ≠ y := by rintro rfl; rw [upd_same] at h3; cases h3
    obtain ⟨_, h4, _, _⟩ := lv z _ ez h2 ⟨l, h1⟩
    obtain ⟨_, h5, _, _⟩ := lv l _ el h3 ⟨l, h1⟩
    rw [upd_ne _ _ ez] at hz
    rw [upd_ne _ _ el] at hl
    exact I.grp g' l z csz csl pz pl e1 h4 h5 hz hl hb
/-- What the plain memory is behind a row that was gone on with. -/
def growO (h : Hp) (x y : Nat) (cs ys : List AV) : Option Nat → Nat → Hp
  | none, g' => upd (upd (upd h g' (.grp y)) x (.row cs (some g'))) y (.row ys (some g'))
  | some g, _ => upd (upd h y (.row ys (some g))) g (.grp y)
def grpId : Option Nat → Nat → Nat
  | none, g' => g'
  | some g, _ => g
theorem growO_y {x y g' : Nat} {cs ys : List AV} {g : Option Nat} (hyl : ∀ g0, g = some g0 → y ≠ g0) : growO h x y cs ys g g' y = some (.row ys (some (grpId g g'))) := by
  cases g with
  | none => exact upd_same ..
  | some g0 => show upd (upd h y _) g0 _ y = _; rw [upd_ne _ _ (hyl _ rfl), upd_same]; rfl
theorem growO_x {x y g' : Nat} {cs ys : List AV} {g : Option Nat} (hx : h x = some (.row cs g)) (hxy : x ≠ y) (hxg : ∀ g0, g = some g0 → x ≠ g0) : growO h x y cs ys g g' x = some (.row cs (some (grpId g g'))) := by
  cases g with
  | none => show upd (upd _ x _) y _ x = _; rw [upd_ne _ _ hxy, upd_same]; rfl
  | some g0 => show upd (upd h y _) g0 _ x = _; rw [upd_ne _ _ (hxg _ rfl), upd_ne _ _ hxy, hx]; rfl
theorem growO_g {x y g' : Nat} {cs ys : List AV} {g : Option Nat} (hxg : x ≠ g') (hyg : y ≠ g') : growO h x y cs ys g g' (grpId g g') = some (.grp y) := by
  cases g with
  | none => show upd (upd (upd h g' _) x _) y _ g' = _; rw [upd_ne _ _ hyg.symm, upd_ne _ _ hxg.symm, upd_same]
  | some g0 => exact upd_same ..
theorem growO_else {x y g' : Nat} {cs ys : List AV} {g : Option Nat} {z : Nat} (hx : z ≠ x) (hy : z ≠ y) (hg : z ≠ grpId g g') : growO h x y cs ys g g' z = h z := by
  cases g with
  | none => show upd (upd (upd h g' _) x _) y _ z = _; rw [upd_ne _ _ hy, upd_ne _ _ hx, upd_ne _ _ (show z ≠ g' from hg)]
  | some g0 => show upd (upd h y _) g0 _ z = _; rw [upd_ne _ _ (show z ≠ g0 from hg), upd_ne _ _ hy]
/-- A row is gone on with, in its own memory behind its known cells, or in new memory: both are kept, and may share. -/
theorem Inv.grow (I : Inv σ B w0 μ h w) {x y g' : Nat} {cs ys : List AV} {g : Option Nat} {p q : Place} (hx : h x = some (.row cs g)) (hl : ∀ g0, g = some g0 → h g0 = some (.grp x)) (hp : μ x = some p) (hhy : h y = none) (hhg' : g = none → h g' = none) (hyg : y ≠ g') (hxg' : x ≠ g')
    (hb : Below B w0 w') (hsz : w.heap.size ≤ w'.heap.size)
    (hw : ∀ i, i < w.heap.size → i ≠ p.b → w'.heap[i]? = w.heap[i]?) (hold : ∀ o, o < p.o + cs.length → w'.cell? ⟨p.b, o, none⟩ = w.cell? ⟨p.b, o, none⟩) (hsome : ∀ o, (w.cell? ⟨p.b, o, none⟩).isSome = true → (w'.cell? ⟨p.b, o, none⟩).isSome = true)
    (hfr : ∀ o, w'.frozen? ⟨p.b, o, none⟩ = w.frozen? ⟨p.b, o, none⟩) (hq : (q.b = p.b ∧ p.o + cs.length ≤ q.o + ys.length) ∨ w.heap.size ≤ q.b) (hqb : q.b < w'.heap.size) (hr : RowAt σ (upd μ y q) w' q ys) :
    Inv σ B w0 (upd μ y q) (growO h x y cs ys g g') w' := by
  have hy := I.unmapped hhy
  have hxy : x ≠ y := by rintro rfl; rw [hp] at hy; cases hy
  have hyl : ∀ g0, g = some g0 → y ≠ g0 := fun g0 e e' => by have := hl g0 e; rw [← e', hhy] at this; cases this
  have hxl : ∀ g0, g = some g0 → x ≠ g0 := fun g0 e e' => by have := hl g0 e; rw [← e', hx] at this; cases this
  have pb := I.base x p hp
  have halive : Alive h g := by cases g with | none => trivial | some g0 => exact ⟨x, hl g0 rfl⟩
  have hext : Ext μ (upd μ y q) := fun z r hz => by
    rw [upd_ne]
    · exact hz
    · rintro rfl; rw [hy] at hz; cases hz
  have ho' : RowAt σ μ w p cs := by
    obtain ⟨p', hp', ho'⟩ := I.obj x _ hx halive
    rw [hp] at hp'; cases hp'
    exact ho'
  have ey := growO_y (h := h) (x := x) (g' := g') (cs := cs) (ys := ys) hyl
  have ex := growO_x (y := y) (g' := g') (ys := ys) hx hxy hxl
  have eg := growO_g (h := h) (cs := cs) (ys := ys) (g := g) hxg' hyg
  have eG : ∀ oz, h (grpId g g') = some oz → g ≠ none ∧ oz = .grp x := fun oz hz => by
    cases g with
    | none => have e : h g' = some oz := hz; rw [hhg' rfl] at e; cases e
    | some g0 => have e : h g0 = some oz := hz; rw [hl g0 rfl] at e; cases e; exact ⟨by simp, rfl⟩
  have lv : ∀ z oz, z ≠ y → z ≠ x → growO h x y cs ys g g' z = some oz → LiveO (growO h x y cs ys g g') oz → h z = some oz ∧ LiveO h oz := fun z oz hz hzx h1 h2 => by
    have eg' : z ≠ grpId g g' := by rintro rfl; rw [eg] at h1; cases h1; exact h2
    rw [growO_else hzx hz eg'] at h1
    refine ⟨h1, ?_⟩
    cases oz with
    | row cz gz =>
      cases gz with
      | none => trivial
      | some gz =>
        obtain ⟨l, hlz⟩ := h2
        by_cases e1 : gz = grpId g g'
        · subst e1
          cases e : h (grpId g g') with
          | none => exact absurd e (I.tag z cz _ h1)
          | some oo => exact ⟨x, by rw [(eG oo e).2] at e; exact e⟩
        · by_cases e2 : gz = y
          · subst e2; exact absurd hhy (I.tag z cz _ h1)
          · by_cases e3 : gz = x
            · subst e3; rw [ex] at hlz; cases hlz
            · rw [growO_else e3 e2 e1] at hlz; exact ⟨l, hlz⟩
    | grp l => exact h2
    | dead => exact h2
    | _ => trivial
  have memG : ∀ z cz, z ≠ y → z ≠ x → h z = some (.row cz (some (grpId g g'))) → g = some (grpId g g') ∧ h (grpId g g') = some (.grp x) := fun z cz hz hzx h1 => by
    cases e : h (grpId g g') with
    | none => exact absurd e (I.tag z cz _ h1)
    | some oo =>
      obtain ⟨e1, e2⟩ := eG oo e
      cases g with
      | none => exact absurd rfl e1
      | some g0 => exact ⟨rfl, by rw [e2]⟩
  have offX : ∀ z oz r, z ≠ x → h z = some oz → LiveO h oz → μ z = some r → r.b = p.b → ∃ cz g0, oz = .row cz (some g0) ∧ g = some g0 ∧ r.o + cz.length ≤ p.o + cs.length := fun z oz r hz h1 h2 hr hb => by
    obtain ⟨g0, e1, e2⟩ := I.apart x z p r _ _ (Ne.symm hz) hp hr hx h1 halive h2 hb.symm
    cases oz with
    | row cz gz =>
      simp only [grpOf] at e1 e2
      subst e1 e2
      exact ⟨cz, g0, rfl, rfl, I.grp g0 x z cz cs r p (hl g0 rfl) h1 hx hr hp hb⟩
    | _ => cases e2
  refine ⟨I.hB, hb, fun z r hz => ?_, fun z r hz => ?_, fun z cz gz hz => ?_, fun z oz hz lz => ?_, fun z t r s oz ot hzt hr hs hz ht lz lt hbb => ?_, fun g1 l z csz csl pz pl h1 h2 h3 hz hl' hb => ?_⟩
  · by_cases e : z = y
    · subst e; rw [upd_same] at hz; cases hz
      refine ⟨?_, hqb⟩
      rcases hq with e | e
      · rw [e.1]; exact pb.1
      · exact Nat.le_trans (Nat.le_trans I.hB I.below.size) e
    · rw [upd_ne _ _ e] at hz; have := I.base z r hz; exact ⟨this.1, by omega⟩
  · by_cases e : z = y
    · subst e; rw [ey]; simp
    · rw [upd_ne _ _ e] at hz
      by_cases e1 : z = x
      · subst e1; rw [ex]; simp
      · by_cases e2 : z = grpId g g'
        · subst e2; rw [eg]; simp
        · rw [growO_else e1 e e2]; exact I.dom z r hz
  · have nn : ∀ t, h t ≠ none → growO h x y cs ys g g' t ≠ none := fun t ht => by
      by_cases e : t = y
      · subst e; rw [ey]; simp
      · by_cases e1 : t = x
        · subst e1; rw [ex]; simp
        · by_cases e2 : t = grpId g g'
          · subst e2; rw [eg]; simp
          · rw [growO_else e1 e e2]; exact ht
    by_cases e : z = y
    · subst e; rw [ey] at hz; cases hz; rw [eg]; simp
    · by_cases e1 : z = x
      · subst e1; rw [ex] at hz; cases hz; rw [eg]; simp
      · by_cases e2 : z = grpId g g'
        · subst e2; rw [eg] at hz; cases hz
        · rw [growO_else e1 e e2] at hz; exact nn _ (I.tag z cz gz hz)
  · by_cases e : z = y
    · subst e; rw [ey] at hz; cases hz; exact ⟨q, upd_same .., hr⟩
    · by_cases e1 : z = x
      · subst e1; rw [ex] at hz; cases hz
        exact ⟨p, hext _ _ hp, ho'.fits, fun i hi => ⟨hsome _ (ho'.there i hi).1, by rw [hfr]; exact (ho'.there i hi).2⟩, fun i a ha => by
          obtain ⟨v, v1, v2, v3⟩ := ho'.tells i a ha
          have := (List.getElem?_eq_some_iff.1 ha).1
          exact ⟨v, by rw [hold _ (by omega)]; exact v1, Rel.mono hext _ _ v2, v3⟩⟩
      · obtain ⟨h1, h2⟩ := lv z oz e e1 hz lz
        obtain ⟨r, hr', ho⟩ := I.obj z oz h1 h2
        refine ⟨r, hext _ _ hr', ?_⟩
        by_cases eb : r.b = p.b
        · obtain ⟨cz, g0, rfl, eg0, hle⟩ := offX z oz r e1 h1 h2 hr' eb
          have ho : RowAt σ μ w r cz := ho
          show RowAt σ _ w' r cz
          obtain ⟨rb, ro, rr⟩ := r
          simp only at eb hle
          subst eb
          exact ⟨ho.fits, fun i hi => ⟨hsome _ (ho.there i hi).1, by rw [hfr]; exact (ho.there i hi).2⟩, fun i a ha => by
            obtain ⟨v, v1, v2, v3⟩ := ho.tells i a ha
            have := (List.getElem?_eq_some_iff.1 ha).1
            exact ⟨v, by rw [hold _ (by show ro + i < _; omega)]; exact v1, Rel.mono hext _ _ v2, v3⟩⟩
        · exact ho.move hext (hw _ (I.base z r hr').2 eb)
  · have key : ∀ t ot s, t ≠ y → growO h x y cs ys g g' t = some ot → LiveO (growO h x y cs ys g g') ot → upd μ y q t = some s → q.b = s.b → grpOf ot = some (grpId g g') := fun t ot s hty ht lt hs hbb => by
      rw [upd_ne _ _ hty] at hs
      by_cases e1 : t = x
      · subst e1; rw [ex] at ht; cases ht; rfl
      · obtain ⟨h1, h2⟩ := lv t ot hty e1 ht lt
        rcases hq with e | e
        · obtain ⟨cz, g0, rfl, eg0, _⟩ := offX t ot s e1 h1 h2 hs (hbb.symm.trans e.1)
          subst eg0; rfl
        · have := (I.base t s hs).2; omega
    by_cases e : z = y
    · subst e
      rw [ey] at hz; cases hz
      rw [upd_same] at hr; cases hr
      exact ⟨_, rfl, key t ot s (Ne.symm hzt) ht lt hs hbb⟩
    · by_cases e' : t = y
      · subst e'
        rw [ey] at ht; cases ht
        rw [upd_same] at hs; cases hs
        exact ⟨_, key z oz r e hz lz hr hbb.symm, rfl⟩
      · rw [upd_ne _ _ e] at hr
        rw [upd_ne _ _ e'] at hs
        by_cases e1 : z = x
        · subst e1
          rw [ex] at hz; cases hz
          rw [hp] at hr; cases hr
          obtain ⟨h1, h2⟩ := lv t ot e' (Ne.symm hzt) ht lt
          obtain ⟨cz, g0, rfl, eg0, _⟩ := offX t ot s (Ne.symm hzt) h1 h2 hs hbb.symm
          subst eg0; exact ⟨_, rfl, rfl⟩
        · by_cases e2 : t = x
          · subst e2
            rw [ex] at ht; cases ht
            rw [hp] at hs; cases hs
            obtain ⟨h1, h2⟩ := lv z oz e e1 hz lz
            obtain ⟨cz, g0, rfl, eg0, _⟩ := offX z oz r e1 h1 h2 hr hbb
            subst eg0; exact ⟨_, rfl, rfl⟩
          · obtain ⟨h1, h2⟩ := lv z oz e e1 hz lz
            obtain ⟨h3, h4⟩ := lv t ot e' e2 ht lt
            exact I.apart z t r s oz ot hzt hr hs h1 h3 h2 h4 hbb
  · have ng : g1 ≠ y ∧ g1 ≠ x := ⟨(by rintro rfl; rw [ey] at h1; cases h1), (by rintro rfl; rw [ex] at h1; cases h1)⟩
    by_cases e1 : g1 = grpId g g'
    · subst e1
      rw [eg] at h1; cases h1
      rw [ey] at h3; cases h3
      rw [upd_same] at hl'; cases hl'
      by_cases e : z = y
      · subst e; rw [ey] at h2; cases h2; rw [upd_same] at hz; cases hz; exact Nat.le_refl _
      · rw [upd_ne _ _ e] at hz
        rcases hq with eq | eq
        · by_cases e2 : z = x
          · subst e2; rw [ex] at h2; cases h2; rw [hp] at hz; cases hz; exact eq.2
          · obtain ⟨h4, h5⟩ := lv z _ e e2 h2 ⟨y, eg⟩
            obtain ⟨cz, g0, e3, eg0, hle⟩ := offX z _ pz e2 h4 h5 hz (hb.trans eq.1)
            cases e3
            exact Nat.le_trans hle eq.2
        · have := (I.base z pz hz).2; omega
    · rw [growO_else ng.2 ng.1 e1] at h1
      have tz : ∀ t ct, growO h x y cs ys g g' t = some (.row ct (some g1)) → t ≠ y ∧ t ≠ x ∧ h t = some (.row ct (some g1)) := fun t ct ht => by
        have a1 : t ≠ y := by rintro rfl; rw [ey] at ht; cases ht; exact e1 rfl
        have a2 : t ≠ x := by rintro rfl; rw [ex] at ht; cases ht; exact e1 rfl
        have a3 : t ≠ grpId g g' := by rintro rfl; rw [eg] at ht; cases ht
        rw [growO_else a2 a1 a3] at ht
        exact ⟨a1, a2, ht⟩
      obtain ⟨z1, _, z3⟩ := tz z csz h2
      obtain ⟨l1, _, l3⟩ := tz l csl h3
      rw [upd_ne _ _ z1] at hz
      rw [upd_ne _ _ l1] at hl'
      exact I.grp g1 l z csz csl pz pl h1 z3 l3 hz hl' hb
end
end
end Ev
end

section
namespace Ev
open Go Go.RowKit
set_option linter.unusedVariables false
/-- The tables tell the program. -/
structure TabOk (P : Program) (tb : Tab) : Prop where
  ty : ∀ t i, tb.ty.look t = some i → P.info? t = some i
  fn : ∀ f fn, tb.fn.look f = some fn → P.funcs[f]? = some fn
  flat : ∀ t, tb.flat t = true → P.stoodInHeld t = false ∧ P.eqGuardType P.depth t = false
  mixed : P.follows .mixedOrders = true
section
variable {P : Program} {tb : Tab}
theorem und_ok (ok : TabOk P tb) {t : TypeId} {d : TypeDesc} (h : und tb t = some d) : P.underlying t = some d := by
  unfold und at h
  cases e : tb.ty.look t with
  | none => rw [e] at h; cases h
  | some i =>
    rw [e] at h
    simp only at h
    unfold Program.underlying
    rw [ok.ty t i e]
    obtain ⟨desc, str, size, bytes, hp, al, fa, zero, cmp, ms⟩ := i
    cases desc with
    | named n u =>
      simp only at h
      cases e2 : tb.ty.look u with
      | none => rw [e2] at h; cases h
      | some j => rw [e2] at h; simp only [Option.some.injEq] at h; simp only [ok.ty u j e2, Option.map_some, h]
    | _ => simp only [Option.some.injEq] at h ⊢; exact h
theorem szA_ok (ok : TabOk P tb) {t : TypeId} {n : Nat} (h : szA tb t = some n) : ∃ i, P.info? t = some i ∧ i.size = n := by
  unfold szA at h
  cases e : tb.ty.look t with
  | none => rw [e] at h; cases h
  | some i => rw [e] at h; cases h; exact ⟨i, ok.ty t i e, rfl⟩
theorem run_sz (ok : TabOk P tb) {t : TypeId} {n : Nat} (h : szA tb t = some n) (w : World) : (Go.sizeOf t).run P w = .ok n w := by
  obtain ⟨i, hi, rfl⟩ := szA_ok ok h
  simp [Go.sizeOf, typeInfo, hi]
theorem run_agg (ok : TabOk P tb) {t : TypeId} {b : Bool} (h : isAggA tb t = some b) (w : World) : (isAgg t).run P w = .ok b w := by
  unfold isAggA at h
  cases e : und tb t with
  | none => rw [e] at h; cases h
  | some d =>
    rw [e] at h
    have := und_ok ok e
    cases d <;> simp only [Option.some.injEq] at h <;> subst h <;> simp [isAgg, run_underlying this]
theorem zeroA_ok (ok : TabOk P tb) {t : TypeId} {a : AV} (h : zeroA tb t = some a) : ∃ i z, P.info? t = some i ∧ i.zero = some z ∧ ∀ (σ : Nat → Value) (μ : Mu), Rel σ μ a z := by
  unfold zeroA at h
  cases e : tb.ty.look t with
  | none => rw [e] at h; cases h
  | some i =>
    rw [e] at h
    simp only at h
    cases e2 : i.zero with
    | none => rw [e2] at h; cases h
    | some z => rw [e2] at h; exact ⟨i, z, ok.ty t i e, e2, fun σ μ => absV_rel z a h⟩
theorem run_zero {t : TypeId} {i : TypeInfo} {z : Value} (hi : P.info? t = some i) (hz : i.zero = some z) (w : World) : (zeroValue t).run P w = .ok z w := by
  simp [zeroValue, typeInfo, hi, hz]
end
/-- What is known at a point of the plain run: its outs are as wished, its memory tells the world's, the names to come are new. -/
structure St (σ : Nat → Value) (B : Nat) (w0 : World) (Φ : Res → Prop) (cE : Nat) (e : E) (b : Nat) (μ : Mu) (t : T AObj) (c : Nat) (F : Foot) (w : World) : Prop where
  run : All Φ (e.run t c b F)
  inv : Inv σ B w0 μ t.look w
  fresh : ∀ x, c ≤ x → x < cE → t.look x = none
  bc : b ≤ c
  ok : F.ok
/-- What has been named since. -/
structure Later (μ : Mu) (c : Nat) (μ1 : Mu) (c1 : Nat) : Prop where
  up : c ≤ c1
  ext : Ext μ μ1
  same : ∀ x, ¬ (c ≤ x ∧ x < c1) → μ1 x = μ x
theorem Later.refl (μ : Mu) (c : Nat) : Later μ c μ c := ⟨Nat.le_refl _, fun _ _ h => h, fun _ _ => rfl⟩
theorem Later.trans {μ μ1 μ2 : Mu} {c c1 c2 : Nat} (h : Later μ c μ1 c1) (k : Later μ1 c1 μ2 c2) : Later μ c μ2 c2 :=
  ⟨Nat.le_trans h.up k.up, fun x p hp => k.ext x p (h.ext x p hp), fun x hx => by
    rw [k.same x (fun hh => hx ⟨Nat.le_trans h.up hh.1, hh.2⟩), h.same x (fun hh => hx ⟨hh.1, Nat.lt_of_lt_of_le hh.2 k.up⟩)]⟩
section
variable {σ : Nat → Value} {B : Nat} {w0 : World} {Φ : Res → Prop} {cE : Nat} {b : Nat} {μ : Mu} {t : T AObj} {c : Nat} {F : Foot} {w : World}
theorem St.fail {n : Nat} (s : St σ B w0 Φ cE (.fail n) b μ t c F w) : False := (show All Φ [none] from s.run).none
theorem St.with {e e' : E} (s : St σ B w0 Φ cE e b μ t c F w) (h : e = e') : St σ B w0 Φ cE e' b μ t c F w := h ▸ s
theorem St.opt {α : Type} {n : Nat} {o : Option α} {k : α → E} (s : St σ B w0 Φ cE (opt n o k) b μ t c F w) : ∃ a, o = some a ∧ St σ B w0 Φ cE (k a) b μ t c F w := by
  cases o with
  | none => exact (St.fail (n := n) s).elim
  | some a => exact ⟨a, rfl, s⟩
theorem St.when {x : E} {n : Nat} {q : Bool} (s : St σ B w0 Φ cE (bif q then x else .fail n) b μ t c F w) : q = true ∧ St σ B w0 Φ cE x b μ t c F w := by
  cases q with
  | true => exact ⟨rfl, s⟩
  | false => exact (St.fail (n := n) s).elim
theorem St.get {x : Nat} {k : AObj → E} (s : St σ B w0 Φ cE (.get x k) b μ t c F w) : x < c ∧ ∃ o, t.look x = some o ∧ ∃ F', St σ B w0 Φ cE (k o) b μ t c F' w := by
  have hr := s.run
  rw [run_get] at hr
  by_cases hx : x < c
  · rw [if_pos hx] at hr
    cases e : t.look x with
    | none => rw [e] at hr; exact (All.none hr).elim
    | some o => rw [e] at hr; exact ⟨hx, o, rfl, _, hr, s.inv, s.fresh, s.bc, Foot.ok_touch s.ok _ _ _⟩
  · rw [if_neg hx] at hr; exact (All.none hr).elim
theorem St.set {x : Nat} {o : AObj} {k : E} (s : St σ B w0 Φ cE (.set x o k) b μ t c F w) : x < c ∧ ∃ F', ∀ μ' w', Inv σ B w0 μ' (upd t.look x o) w' → St σ B w0 Φ cE k b μ' (t.put o x) c F' w' := by
  have hr := s.run
  rw [run_set] at hr
  by_cases hx : x < c
  · rw [if_pos hx] at hr
    refine ⟨hx, _, fun μ' w' I => ⟨hr, by rw [look_upd]; exact I, fun y h1 h2 => ?_, s.bc, Foot.ok_touch s.ok _ _ _⟩⟩
    rw [look_upd, upd_ne _ _ (by omega)]; exact s.fresh y h1 h2
  · rw [if_neg hx] at hr; exact (All.none hr).elim
theorem St.new (hΦ : ∀ q, Φ q → q.2.2.1 ≤ cE) {o : AObj} {k : Nat → E} (s : St σ B w0 Φ cE (.new o k) b μ t c F w) : c < cE ∧ t.look c = none ∧ ∀ μ' w', Inv σ B w0 μ' (upd t.look c o) w' → St σ B w0 Φ cE (k c) b μ' (t.put o c) (c + 1) F w' := by
  have hr := s.run
  rw [run_new] at hr
  obtain ⟨q, hq, hp⟩ := hr.some_of (run_ne _ _ _ _ _)
  have k1 : c + 1 ≤ q.2.2.1 := (E.keeps _ _ _ _ _ q hq (Nat.le_succ_of_le s.bc) s.ok).up
  have := hΦ q hp
  have hlt : c < cE := by omega
  have hb := s.bc
  refine ⟨hlt, s.fresh c (Nat.le_refl _) hlt, fun μ' w' I => ⟨hr, by rw [look_upd]; exact I, fun y h1 h2 => ?_, by omega, s.ok⟩⟩
  rw [look_upd, upd_ne _ _ (by omega)]; exact s.fresh y (by omega) h2
/-- A row's cells, read. -/
theorem St.row {x : Nat} {k : List AV → Option Nat → E} (s : St σ B w0 Φ cE (rowE x k) b μ t c F w) : x < c ∧ ∃ cs g p F', t.look x = some (.row cs g) ∧ Alive t.look g ∧ (∀ g0, g = some g0 → g0 < c) ∧ μ x = some p ∧ RowAt σ μ w p cs ∧ St σ B w0 Φ cE (k cs g) b μ t c F' w := by
  obtain ⟨hx, o, ho, F', s⟩ := s.get
  cases o with
  | row cs g =>
    cases g with
    | none =>
      obtain ⟨p, hp, hr⟩ := s.inv.obj x _ ho trivial
      exact ⟨hx, cs, none, p, F', ho, trivial, (fun _ e => by cases e), hp, hr, s⟩
    | some g =>
      obtain ⟨hg, og, hog, F'', s⟩ := s.get
      cases og with
      | grp l =>
        obtain ⟨p, hp, hr⟩ := s.inv.obj x _ ho ⟨l, hog⟩
        exact ⟨hx, cs, some g, p, F'', ho, ⟨l, hog⟩, (fun _ e => by cases e; exact hg), hp, hr, s⟩
      | _ => exact s.fail.elim
  | _ => exact s.fail.elim
/-- Cells, read. -/
theorem St.read {x off n : Nat} {k : List AV → E} (s : St σ B w0 Φ cE (readE x off n k) b μ t c F w) : ∃ cs F', St σ B w0 Φ cE (k cs) b μ t c F' w ∧ cs.length = n ∧
    (∀ p, μ x = some p → ∃ vs, RelL σ μ cs vs ∧ ∀ j v, vs[j]? = some v → w.cell? ⟨p.b, p.o + off + j, none⟩ = some v ∧ v.oneCell' = true) := by
  cases n with
  | zero => exact ⟨[], F, s, rfl, fun p _ => ⟨[], RelL.nil, fun j v h => by simp at h⟩⟩
  | succ n =>
    obtain ⟨hx, cs, g, p, F', _, _, _, hp, hr, s⟩ := St.row (s.with (e' := rowE x fun cs _ => Ev.opt 103 (seg cs off (n + 1)) k) rfl)
    obtain ⟨r, hseg, s⟩ := s.opt
    obtain ⟨_, hl, hle⟩ := seg_spec _ _ _ _ hseg
    refine ⟨r, F', s, hl, fun p' hp' => ?_⟩
    rw [hp] at hp'; cases hp'
    have hget : ∀ j, j < n + 1 → ∃ v, w.cell? ⟨p.b, p.o + off + j, none⟩ = some v ∧ (∀ a, r[j]? = some a → Rel σ μ a v) ∧ v.oneCell' = true := fun j hj => by
      have e := seg_get hseg hj
      have hlt : off + j < cs.length := by omega
      obtain ⟨v, h1, h2, h3⟩ := hr.tells (off + j) cs[off + j] (List.getElem?_eq_getElem hlt)
      refine ⟨v, by rw [Nat.add_assoc]; exact h1, fun a ha => ?_, h3⟩
      rw [e, List.getElem?_eq_getElem hlt] at ha; cases ha; exact h2
    refine ⟨(List.range (n + 1)).map fun j => (w.cell? ⟨p.b, p.o + off + j, none⟩).getD undef, RelL.of (by simp [hl]) fun j a ha => ?_, fun j v hv => ?_⟩
    · have hj : j < n + 1 := by have := (List.getElem?_eq_some_iff.1 ha).1; omega
      obtain ⟨v, h1, h2, _⟩ := hget j hj
      exact ⟨v, by simp [hj, h1], h2 a ha⟩
    · have hj : j < n + 1 := by have := (List.getElem?_eq_some_iff.1 hv).1; simpa using this
      obtain ⟨v', h1, _, h3⟩ := hget j hj
      simp [hj, h1] at hv
      subst hv
      exact ⟨h1, h3⟩
theorem addr_add (B o n : Nat) : (⟨B, o, none⟩ : Addr).add n = ⟨B, o + n, none⟩ := by unfold Addr.add; split <;> simp_all
/-- A row's group is given up, and the row laid anew. -/
theorem St.kill {g : Option Nat} {x : Nat} {o : AObj} {k : E} (s : St σ B w0 Φ cE (bkill g (.set x o k)) b μ t c F w) : ∃ F' t', (∀ μ' w', Inv σ B w0 μ' (upd (killO t.look g) x o) w' → St σ B w0 Φ cE k b μ' t' c F' w') ∧ t'.look = upd (killO t.look g) x o := by
  cases g with
  | none =>
    obtain ⟨hx, F', s'⟩ := St.set (show St σ B w0 Φ cE (.set x o k) b μ t c F w from s)
    exact ⟨F', _, fun μ' w' I => s' μ' w' I, look_upd ..⟩
  | some g =>
    have hr := s.run
    simp only [bkill] at hr
    rw [run_set] at hr
    by_cases hg : g < c
    · rw [if_pos hg, run_set] at hr
      by_cases hx : x < c
      · rw [if_pos hx] at hr
        refine ⟨_, _, fun μ' w' I => ⟨hr, by rw [look_upd, look_upd]; exact I, fun y h1 h2 => ?_, s.bc, Foot.ok_touch (Foot.ok_touch s.ok _ _ _) _ _ _⟩, by rw [look_upd, look_upd]; rfl⟩
        rw [look_upd, look_upd, upd_ne _ _ (by omega), upd_ne _ _ (by omega)]; exact s.fresh y h1 h2
      · rw [if_neg hx] at hr; exact (All.none hr).elim
    · rw [if_neg hg] at hr; exact (All.none hr).elim
/-- Cells, written. -/
theorem setCells_facts {w0 w : World} {B : Nat} (hb : Below B w0 w) (bk o : Nat) (hB : B ≤ bk) (vs : List Value) : Below B w0 (w.setCells bk o vs) ∧ (w.setCells bk o vs).heap.size = w.heap.size ∧ (∀ i, i < w.heap.size → i ≠ bk → (w.setCells bk o vs).heap[i]? = w.heap[i]?) := by
  have hs : ∀ (vs : List Value) (o : Nat) (w : World), (w.setCells bk o vs).heap.size = w.heap.size := by
    intro vs
    induction vs with
    | nil => intro o w; rfl
    | cons v vs ih => intro o w; show ((w.setCell _ v).setCells bk (o + 1) vs).heap.size = _; rw [ih]; simp [World.setCell]
  have hbl : ∀ (vs : List Value) (o : Nat) (w : World), Below B w0 w → Below B w0 (w.setCells bk o vs) := by
    intro vs
    induction vs with
    | nil => intro o w h; exact h
    | cons v vs ih => intro o w h; exact ih (o + 1) _ (h.setCell hB v)
  exact ⟨hbl vs o w hb, hs vs o w, fun i hi hne => World.heap_setCells_other w bk o vs hi hne⟩
theorem St.write {x off : Nat} {vs : List AV} {k : E} (s : St σ B w0 Φ cE (writeE x off vs k) b μ t c F w) (hσ : Syms σ) {us : List Value} (hu : RelL σ μ vs us) : (vs = [] ∧ St σ B w0 Φ cE k b μ t c F w) ∨
    ∃ p t' F', μ x = some p ∧ (∀ j, j < us.length → (w.cell? ⟨p.b, p.o + off + j, none⟩).isSome = true) ∧ (∀ j, j < us.length → w.frozen? ⟨p.b, p.o + off + j, none⟩ = false) ∧ (∀ u ∈ us, u.oneCell' = true) ∧ St σ B w0 Φ cE k b μ t' c F' (w.setCells p.b (p.o + off) us) := by
  cases vs with
  | nil => exact .inl ⟨rfl, s⟩
  | cons v vs =>
    refine .inr ?_
    simp only [writeE] at s
    by_cases h1 : allOne (v :: vs) = true
    · have s := s.with (e' := rowE x fun cs g => match seg cs off (v :: vs).length with
        | none => .fail 104
        | some _ => Ev.opt 105 (lay cs off (v :: vs)) fun cs' => bkill g (.set x (.row cs' none) k)) (by rw [h1]; rfl)
      obtain ⟨hx, cs, g, p, F', ho, hal, hgl, hp, hr, s⟩ := St.row s
      cases hseg : seg cs off (v :: vs).length with
      | none => rw [hseg] at s; exact s.fail.elim
      | some r =>
        rw [hseg] at s
        obtain ⟨cs', hlay, s⟩ := s.opt
        obtain ⟨_, _, hle⟩ := seg_spec _ _ _ _ hseg
        obtain ⟨_, l2, l3⟩ := lay_spec _ _ _ _ hlay
        have hlen := hu.len
        have hfit := hr.fits
        have hone : ∀ u ∈ us, u.oneCell' = true := hu.ones hσ h1
        have hcs : ∀ j, j < us.length → (w.cell? ⟨p.b, p.o + off + j, none⟩).isSome = true := fun j hj => by
          have := (hr.there (off + j) (by omega)).1; rwa [← Nat.add_assoc] at this
        have hfs : ∀ j, j < us.length → w.frozen? ⟨p.b, p.o + off + j, none⟩ = false := fun j hj => by
          have := (hr.there (off + j) (by omega)).2; rwa [← Nat.add_assoc] at this
        obtain ⟨F'', t', hk, ht'⟩ := St.kill s
        obtain ⟨b1, b2, b3⟩ := setCells_facts s.inv.below p.b (p.o + off) (s.inv.base x p hp).1 us
        refine ⟨p, t', F'', hp, hcs, hfs, hone, hk μ _ (s.inv.write ho hal hp b1 b2 b3 ⟨?_, fun i hi => ?_, fun i a ha => ?_⟩)⟩
        · rw [l2]; omega
        · refine ⟨?_, by rw [World.frozen?_setCells]; exact (hr.there i hi).2⟩
          by_cases hin : off ≤ i ∧ i < off + us.length
          · have := World.cell?_setCells_in p.b us (p.o + off) w hcs (i - off) (by omega)
            rw [show p.o + off + (i - off) = p.o + i by omega] at this
            rw [this]; rfl
          · rw [World.cell?_setCells_out p.b us (p.o + off) w ⟨p.b, p.o + i, none⟩ (fun _ _ => by show p.o + i < p.o + off ∨ p.o + off + us.length ≤ p.o + i; omega)]
            exact (hr.there i hi).1
        · rw [l3] at ha
          by_cases hin : off ≤ i ∧ i < off + (v :: vs).length
          · rw [if_pos hin] at ha
            obtain ⟨u, hu1, hu2⟩ := hu.get _ _ ha
            have hlt : i - off < us.length := (List.getElem?_eq_some_iff.1 hu1).1
            have := World.cell?_setCells_in p.b us (p.o + off) w hcs (i - off) hlt
            rw [show p.o + off + (i - off) = p.o + i by omega] at this
            refine ⟨u, ?_, hu2, hone u (List.mem_of_getElem? hu1)⟩
            rw [this]
            have := (List.getElem?_eq_some_iff.1 hu1).2
            rw [← this]
          · rw [if_neg hin] at ha
            obtain ⟨u, h2, h3, h4⟩ := hr.tells i a ha
            refine ⟨u, ?_, h3, h4⟩
            rw [World.cell?_setCells_out p.b us (p.o + off) w ⟨p.b, p.o + i, none⟩ (fun _ _ => by show p.o + i < p.o + off ∨ p.o + off + us.length ≤ p.o + i; omega)]
            exact h2
    · have : allOne (v :: vs) = false := by simpa using h1
      rw [this] at s
      exact (St.fail (n := 106) s).elim
/-- New cells. -/
theorem St.newRow (hΦ : ∀ q, Φ q → q.2.2.1 ≤ cE) {cs : List AV} {k : Nat → E} (s : St σ B w0 Φ cE (.new (.row cs none) k) b μ t c F w) {vs : List Value} (hv : RelL σ μ cs vs) (h1 : ∀ v ∈ vs, v.oneCell' = true) (xs : Array Value) (hxs : xs.toList.take vs.length = vs) (el : TypeId) (fz : Nat × Nat) (hfz : fz.2 ≤ fz.1 ∨ xs.size ≤ fz.1) :
    ∃ μ1, Later μ c μ1 (c + 1) ∧ μ1 c = some ⟨w.heap.size, 0, xs.size⟩ ∧ St σ B w0 Φ cE (k c) b μ1 (t.put (.row cs none) c) (c + 1) F (w.alloc (.cells xs el fz)) := by
  obtain ⟨hlt, hn, s'⟩ := St.new hΦ s
  have hμ := s.inv.unmapped hn
  have hext : Ext μ (upd μ c ⟨w.heap.size, 0, xs.size⟩) := fun x p hp => by
    rw [upd_ne]
    · exact hp
    · rintro rfl; rw [hμ] at hp; cases hp
  have hsz : vs.length ≤ xs.size := by
    have := congrArg List.length hxs
    simp only [List.length_take, Array.length_toList] at this
    omega
  have hcell : ∀ i, (w.alloc (.cells xs el fz)).cell? ⟨w.heap.size, 0 + i, none⟩ = xs[i]? := fun i => by
    show (match (w.heap.push (.cells xs el fz))[w.heap.size]? with | some (.cells c _ _) => if (none : Option Nat).isSome then none else c[0 + i]? | _ => none) = _
    rw [Array.getElem?_push_size]; simp
  refine ⟨upd μ c ⟨w.heap.size, 0, xs.size⟩, ⟨by omega, hext, fun x hx => upd_ne _ _ (fun e => hx (by omega))⟩, upd_same .., s' _ _ (s.inv.alloc (o := .row cs none) hn (fun _ => trivial) rfl (fun _ e => by cases e) (r := xs.size) ⟨?_, fun i hi => ?_, fun i a ha => ?_⟩)⟩
  · rw [← hv.len]; exact hsz
  · rw [hcell]
    have hi : i < xs.size := hi
    refine ⟨by simp [hi], ?_⟩
    show (match (w.heap.push (.cells xs el fz))[w.heap.size]? with | some (.cells _ _ (lo, hi)) => decide (lo ≤ 0 + i) && decide (0 + i < hi) | _ => false) = false
    rw [Array.getElem?_push_size]
    rcases hfz with h | h <;> simp only [Bool.and_eq_false_iff, decide_eq_false_iff_not] <;> omega
  · rw [hcell]
    obtain ⟨v, h2, h3⟩ := hv.get i a ha
    refine ⟨v, ?_, Rel.mono hext _ _ h3, h1 v (List.mem_of_getElem? h2)⟩
    have hi : i < vs.length := (List.getElem?_eq_some_iff.1 h2).1
    rw [← hxs, List.getElem?_take, if_pos hi] at h2
    simpa using h2
end
end Ev
end
