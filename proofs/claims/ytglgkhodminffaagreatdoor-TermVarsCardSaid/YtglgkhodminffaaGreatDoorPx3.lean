/- A plain run of a function's loaded form over data that are not known, and that what it answers the program answers: part 3. -/
import Derived.Test.YtglgkhodminffaaGreatDoorPx2
import Derived.ChangeArms
import Derived.DataReads
import Derived.DataElems
import Derived.WideShapes
import Derived.ChangeShapes
import Derived.OpenShut
import Derived.Carry
section
namespace Px
open Go Go.RowKit
set_option linter.unusedVariables false
set_option linter.unusedSimpArgs false
/-- The tables of a program, as tries. -/
noncomputable def tabOf (P : Program) (given : FuncId → Option (List AV → List AObj → Ans)) (inl : FuncId → Bool) (grow : FuncId → Nat → Bool) (marks : Marks) : Tab :=
  { ty := T.ofL P.types.toList 0 .leaf, fn := T.ofL P.funcs.toList 0 .leaf, given := given, inl := inl, grow := grow, live := liveM marks, shape := shapeM (T.ofL P.types.toList 0 .leaf) marks, flat := fun t => !(P.stoodInHeld t) && !(P.eqGuardType P.depth t) }
theorem tabOf_ok {P : Program} {given : FuncId → Option (List AV → List AObj → Ans)} {inl : FuncId → Bool} {grow : FuncId → Nat → Bool} {marks : Marks} (hm : P.follows .mixedOrders = true) (hn : (P.funcs.toList.all fun fn => fn.name != "runtime.NumGoroutine") = true)
    (hg : CxOk P (tabOf P given inl grow marks) (fun f args objs => match given f with | some g => g args objs | none => none)) : AllOk P (tabOf P given inl grow marks) := by
  have hfn : ∀ f fn, (tabOf P given inl grow marks).fn.look f = some fn → P.funcs[f]? = some fn := fun f fn h => by
    have h : (T.ofL P.funcs.toList 0 .leaf).look f = some fn := h
    rw [T.look_ofL0] at h
    rw [← Array.getElem?_toList]; exact h
  refine ⟨⟨fun t i h => ?_, hfn, fun t h => ?_, hm⟩, fun f fn h => ?_, hg⟩
  · have h : (T.ofL P.types.toList 0 .leaf).look t = some i := h
    rw [T.look_ofL0] at h
    rw [Array.getElem?_toList] at h
    have hlt : t < P.types.size := (Array.getElem?_eq_some_iff.1 h).1
    rw [← h]
    unfold Tables.info?; rw [if_pos hlt]
  · have h : (!(P.stoodInHeld t) && !(P.eqGuardType P.depth t)) = true := h
    simpa using h
  · have := hfn f fn h
    rw [← Array.getElem?_toList] at this
    have := List.all_eq_true.1 hn fn (List.mem_of_getElem? this)
    simpa using this
/-- A world whose cells are known where a table tells them. -/
def Cells (fz : Fz) (w : World) : Prop := ∀ b o v, fz b o = some v → w.cell? ⟨b, o, none⟩ = some v ∧ v.oneCell' = true
def dataMu (fz : Fz) : Mu := ⟨fun _ => none, fun _ _ => none, fz⟩
theorem inv0 {tb : Tab} {fz : Fz} {w : World} (h : Cells fz w) : Inv tb ⟨fun _ => False, fz, w⟩ (dataMu fz) (fun i => ([] : List AObj)[i]?) w := by
  have no : ∀ x b, ¬ Owns (dataMu fz) (fun i => ([] : List AObj)[i]?) x b := fun x b hx => by
    unfold Owns at hx
    simp only [List.getElem?_nil] at hx
  exact ⟨Fr.refl _ _, h, fun _ _ _ hv => .inl hv, fun x b hx => (no x b hx).elim, fun x p hp => (by cases hp), fun x n v hv => (by cases hv), fun x o ho => (by simp at ho), fun x y b _ hx => (no x b hx).elim⟩
/-- A function of data: it returns what is told, and nothing that was there turns. -/
theorem calls_data {P : Program} {tb : Tab} (ok : AllOk P tb) {k : Nat} {f : FuncId} {fn : Func} {args : List AV} {p : PV} {ls : List PV} (hf : tb.fn.look f = some fn) (h : callX tb k f args [] = some (p, ls)) {fz : Fz} {w : World} (hc : Cells fz w) {us : List Value} (hr : RelL tb (dataMu fz) args us) :
    (callFunc f us.toArray).run P w = .ok (.enter f us.toArray) w ∧ Calls P f us.toArray w fun e w' => ∃ v fz', e = .returned v ∧ Below w.heap.size w w' ∧ Cells fz' w' ∧ (∀ b o v, fz b o = some v → fz' b o = some v) ∧ ResIs tb fz' fn.resultTypes.toList p v := by
  obtain ⟨h1, h2⟩ := callX_ok ok k f fn args [] p ls hf h ⟨fun _ => False, fz, w⟩ (dataMu fz) w us (inv0 hc) hr (fun i p hp => by cases hp)
  refine ⟨h1, h2.mono fun e w' ⟨v, μ3, hv, Bk, hres⟩ => ⟨v, μ3.fz, hv, Fr.below Bk.inv.fr, Bk.inv.fz, Bk.fz, hres⟩⟩
end Px
end

section
namespace Px
open Go Go.RowKit
set_option linter.unusedVariables false
/-- What a function of data answers, once the run is long enough. -/
def Does (tb : Tab) (f : FuncId) (args : List AV) (p : PV) : Prop := ∃ K, ∀ k, K ≤ k → callX tb k f args [] = some (p, [])
theorem callX_succ {tb : Tab} {k : Nat} {f : FuncId} {args : List AV} {objs : List AObj} (hg : tb.given f = none) : callX tb (k + 1) f args objs = bodyX tb (callX tb k) k f args objs := by
  show (match tb.given f with | some g => g args objs | none => bodyX tb (callX tb k) k f args objs) = _
  rw [hg]
theorem does_of {tb : Tab} {f : FuncId} {args : List AV} {p : PV} (hg : tb.given f = none) (h : ∃ K, ∀ k, K ≤ k → bodyX tb (callX tb k) k f args [] = some (p, [])) : Does tb f args p := by
  obtain ⟨K, h⟩ := h
  refine ⟨K + 1, fun k hk => ?_⟩
  obtain ⟨j, rfl⟩ : ∃ j, k = j + 1 := ⟨k - 1, by omega⟩
  rw [callX_succ hg]
  exact h j (by omega)
/-- For all of finitely many calls, a run that is long enough for each. -/
theorem does_all {tb : Tab} {α : Type} (l : List α) (f : α → FuncId) (args : α → List AV) (p : α → PV) (h : ∀ a ∈ l, Does tb (f a) (args a) (p a)) : ∃ K, ∀ k, K ≤ k → ∀ a ∈ l, callX tb k (f a) (args a) [] = some (p a, []) := by
  induction l with
  | nil => exact ⟨0, fun _ _ a ha => by cases ha⟩
  | cons x l ih =>
    obtain ⟨K1, h1⟩ := h x (List.mem_cons_self ..)
    obtain ⟨K2, h2⟩ := ih fun a ha => h a (List.mem_cons_of_mem _ ha)
    refine ⟨max K1 K2, fun k hk a ha => ?_⟩
    rcases List.mem_cons.1 ha with rfl | ha
    · exact h1 k (by omega)
    · exact h2 k (by omega) a ha
/-- A loop whose rounds go on n times and then come out. -/
theorem loopX_runs {round : List PV → (PV → List PV → Ans) → Ans} (st : Nat → List PV) (n : Nat) (c : PV) (out : List PV) (hc : eqI c.i 0 = false)
    (h1 : ∀ i, i < n → ∀ K, round (st i) K = K (.int 0) (st (i + 1))) (h2 : ∀ K, round (st n) K = K c out) : ∀ (j m : Nat), j ≤ n → n - j < m → loopX m round (st j) = some (c, out) := by
  intro j m
  induction m generalizing j with
  | zero => intro _ h; omega
  | succ m ih =>
    intro hj hm
    show round (st j) (fun c' ls' => @Bool.rec (fun _ => Ans) (some (c', ls')) (loopX m round ls') (eqI c'.i 0)) = _
    by_cases e : j = n
    · subst e; rw [h2]; rw [hc]
    · rw [h1 j (by omega)]
      have : eqI (PV.int 0).i 0 = true := by decide
      rw [this]
      exact ih (j + 1) (by omega) (by omega)
end Px
end

section
namespace Px
open Go Go.RowKit
set_option linter.unusedVariables false
set_option linter.unusedSimpArgs false
/-- The cells of a world that are one value each. -/
def fzOf (W : World) : Fz := fun b o => match W.cell? ⟨b, o, none⟩ with | some v => bif v.oneCell' then some v else none | none => none
theorem fzOf_cells (W : World) : Cells (fzOf W) W := by
  intro b o v h
  unfold fzOf at h
  cases e : W.cell? ⟨b, o, none⟩ with
  | none => rw [e] at h; cases h
  | some u =>
    rw [e] at h
    cases eo : u.oneCell' with
    | false => simp [eo] at h
    | true => simp only [eo, cond_true, Option.some.injEq] at h; subst h; exact ⟨rfl, eo⟩
theorem fzOf_some {W : World} {b o : Nat} {v : Value} (h : W.cell? ⟨b, o, none⟩ = some v) (h1 : v.oneCell' = true) : fzOf W b o = some v := by
  unfold fzOf; rw [h]; simp [h1]
/-- Data whose ints are ints, and whose texts and rows are no longer than any machine's. -/
inductive WfP : PV → Prop
  | int {n : Int} (h1 : -9223372036854775808 ≤ n) (h2 : n ≤ 9223372036854775807) : WfP (.int n)
  | bool {b : Bool} : WfP (.bool b)
  | str {s : List Nat} (h : s.length < 9223372036854775808) (h2 : ∀ b ∈ s, b < 256) : WfP (.str s)
  | node {ps : List PV} (h : ps.length < 9223372036854775808) (h2 : ∀ p ∈ ps, WfP p) : WfP (.node ps)
/-- Fields one behind the other. -/
def contig (sz : TypeId → Option Nat) : List Field → Nat → Option Nat
  | [], off => some off
  | f :: fs, off => bif Nat.beq f.offset off then (match sz f.type with | some n => contig sz fs (off + n) | none => none) else none
def kindOk : IntKind → Bool
  | .u64 => false
  | _ => true
/-- Types of data, closed. -/
noncomputable def goodT (tb : Tab) (G : List Nat) (t : TypeId) : Bool := match und tb t, szA tb t with
  | some .bool, some n => Nat.beq n 1
  | some (.int k), some n => Nat.beq n 1 && kindOk k
  | some .string, some n => Nat.beq n 1
  | some (.slice e), some n => Nat.beq n 1 && memN e G && (match szA tb e with | some (_ + 1) => true | _ => false)
  | some (.struct fs), some n => (fs.toList.all fun f => memN f.type G) && (match contig (szA tb) fs.toList 0 with | some m => Nat.beq m n | none => false) && Nat.blt fs.toList.length 1000
  | _, _ => false
noncomputable def goodB (tb : Tab) (G : List Nat) : Bool := G.all (goodT tb G)
theorem memN_in : ∀ {l : List Nat} {x : Nat}, memN x l = true → x ∈ l
  | [], x, h => by cases h
  | y :: l, x, h => by
    simp only [memN, Bool.or_eq_true] at h
    rcases h with h | h
    · rw [Nat.eq_of_beq_eq_true h]; exact List.mem_cons_self ..
    · exact List.mem_cons_of_mem _ (memN_in h)
section
variable {P : Program} {tb : Tab} {H : Type} {enc : TypeId × Value → H} {W : World} {base : Nat} {spare : Nat → Bool} {held : Bool}
theorem cellsOf_ok (ok : TabOk P tb) {t : TypeId} {n : Nat} (h : szA tb t = some n) : P.cellsOf t = n := by
  obtain ⟨i, hi, rfl⟩ := szA_ok ok h
  unfold Program.cellsOf; rw [hi]; rfl
theorem bytesN_lt (b : ByteArray) : ∀ x ∈ bytesN b, x < 256 := by
  intro x hx
  unfold bytesN at hx
  obtain ⟨u, _, rfl⟩ := List.mem_map.1 hx
  exact u.toNat_lt
theorem wf_int {k : IntKind} {n : Int} (hk : kindOk k = true) (h : (Lit.int k n).wf = true) : WfP (.int n) := by
  cases k <;> first | (cases hk; done) | skip
  all_goals
    simp only [Lit.wf, Bool.and_eq_true, decide_eq_true_eq] at h
    simp only [IntKind.min, IntKind.max, IntKind.signed, IntKind.bits] at h
    exact .int (by have := h.1; simp at this; omega) (by have := h.2; simp at this; omega)
/-- What is read of a datum of a type. -/
structure Told (tb : Tab) (W : World) (t : TypeId) (cs : List Value) (p : PV) (v : Value) : Prop where
  rel : RelP tb (fzOf W) t p v
  kind : Kind tb t v
  cells : v.cells.toList = cs
  one : ∀ c ∈ cs, c.oneCell' = true
  wf : WfP p
  sz : szA tb t = some cs.length
theorem told_one {t : TypeId} {p : PV} {v : Value} (hr : RelP tb (fzOf W) t p v) (ha : isAggA tb t = some false) (h1 : v.oneCell' = true) (hc : v.cells = #[v]) (hw : WfP p) (hs : szA tb t = some 1) : Told tb W t [v] p v :=
  ⟨hr, .inr ⟨ha, h1⟩, by rw [hc], fun c hc => by rw [List.mem_singleton.1 hc]; exact h1, hw, hs⟩
theorem fields_rel {n : Nat} {Q : TypeId → List Value → Prop} (hQ : ∀ t cs, Q t cs → ∃ p v, Told tb W t cs p v) (cell : TypeId → Nat) (hcell : ∀ t m, szA tb t = some m → cell t = m) : ∀ (fs : List Field) (off m : Nat) (cs : List Value), contig (szA tb) fs off = some m → m = cs.length → (∀ f ∈ fs, Q f.type ((cs.drop f.offset).take (cell f.type))) →
    ∃ ps, RelF tb (fzOf W) ps fs cs ∧ ps.length = fs.length ∧ (∀ p ∈ ps, WfP p) ∧ (∀ c ∈ cs.drop off, c.oneCell' = true) ∧ off ≤ m
  | [], off, m, cs, h, hm, hf => by
    simp only [contig, Option.some.injEq] at h
    refine ⟨[], rfl, rfl, (fun p hp => by cases hp), fun c hc => ?_, by omega⟩
    rw [List.drop_eq_nil_of_le (by omega)] at hc; cases hc
  | f :: fs, off, m, cs, h, hm, hf => by
    simp only [contig] at h
    cases eo : Nat.beq f.offset off with
    | false => rw [eo] at h; cases h
    | true =>
      have eo := Nat.eq_of_beq_eq_true eo
      cases es : szA tb f.type with
      | none => rw [es] at h; simp at h
      | some k =>
        rw [es] at h
        have h : contig (szA tb) fs (off + k) = some m := by simpa [eo] using h
        obtain ⟨ps, h1, h2, h3, h4, h5⟩ := fields_rel (n := n) hQ cell hcell fs (off + k) m cs h hm fun g hg => hf g (List.mem_cons_of_mem _ hg)
        obtain ⟨p, v, t⟩ := hQ _ _ (hf f (List.mem_cons_self ..))
        have ts := t.sz
        rw [es] at ts
        simp only [Option.some.injEq] at ts
        rw [hcell _ _ es] at ts
        refine ⟨p :: ps, ⟨f, fs, rfl, ⟨v, k, t.rel, t.kind, es, ?_, ?_⟩, h1⟩, by simp [h2], fun q hq => ?_, fun c hc => ?_, by omega⟩
        · rw [t.cells, hcell _ _ es]
        · have := congrArg List.length t.cells
          rw [Array.length_toList, hcell _ _ es] at this
          rw [this]; exact ts.symm
        · rcases List.mem_cons.1 hq with rfl | hq
          · exact t.wf
          · exact h3 q hq
        · rw [← List.take_append_drop k (cs.drop off)] at hc
          rcases List.mem_append.1 hc with hc | hc
          · refine t.one c ?_
            rw [hcell _ _ es, eo]; exact hc
          · rw [List.drop_drop] at hc
            exact h4 c hc
theorem elems_rel {e : TypeId} {sz b : Nat} (hs : szA tb e = some sz) : ∀ (len o : Nat) (f : Nat → List Value), (∀ i, i < len → (∃ p v, Told tb W e (f i) p v) ∧ ∀ j, j < sz → W.cell? ⟨b, o + i * sz + j, none⟩ = (f i)[j]?) →
    ∃ ps, ps.length = len ∧ RelE tb (fzOf W) e sz b ps o ∧ ∀ p ∈ ps, WfP p
  | 0, o, f, h => ⟨[], rfl, trivial, fun p hp => by cases hp⟩
  | len + 1, o, f, h => by
    obtain ⟨ps, h1, h2, h3⟩ := elems_rel hs len (o + sz) (fun i => f (i + 1)) fun i hi => ⟨(h (i + 1) (by omega)).1, fun j hj => by
      have e : o + sz + i * sz + j = o + (i + 1) * sz + j := by rw [Nat.succ_mul]; omega
      rw [e]; exact (h (i + 1) (by omega)).2 j hj⟩
    obtain ⟨⟨p, v, t⟩, hc⟩ := h 0 (by omega)
    have ts := t.sz
    rw [hs] at ts
    simp only [Option.some.injEq] at ts
    refine ⟨p :: ps, by simp [h1], ⟨⟨v, t.rel, t.kind, ?_, fun j c hj => ?_⟩, h2⟩, fun q hq => ?_⟩
    · rw [← Array.length_toList, t.cells]; exact ts.symm
    · rw [t.cells] at hj
      have hlt := (List.getElem?_eq_some_iff.1 hj).1
      have h0 := hc j (by omega)
      rw [hj, Nat.zero_mul, Nat.add_zero] at h0
      exact fzOf_some h0 (t.one c (List.mem_of_getElem? hj))
    · rcases List.mem_cons.1 hq with rfl | hq
      · exact t.wf
      · exact h3 q hq
/-- An argument that can be read is told by data. -/
theorem trod_told (ok : TabOk P tb) {G : List Nat} (hG : goodB tb G = true) : ∀ (N fuel : Nat) (t : TypeId) (cs : List Value) (x : DataW H × List MemPlace), fuel ≤ N → t ∈ G → DataW.trod enc P W base spare held fuel t cs = some x → ∃ p v, Told tb W t cs p v := by
  intro N
  induction N with
  | zero =>
    intro fuel t cs x hf ht h
    obtain rfl : fuel = 0 := by omega
    simp [DataW.trod] at h
  | succ N ih =>
    intro fuel t cs x hf ht h
    have hg := List.all_eq_true.1 hG t ht
    unfold goodT at hg
    cases eu : und tb t with
    | none => rw [eu] at hg; cases hg
    | some d =>
      cases es : szA tb t with
      | none => rw [eu, es] at hg; cases d <;> cases hg
      | some n =>
        rw [eu, es] at hg
        have hu := und_ok ok eu
        cases d <;> first | (cases hg; done) | skip
        · -- bool
          obtain rfl := Nat.eq_of_beq_eq_true hg
          obtain ⟨b, rfl, _⟩ := DataW.trod_bool hu h
          exact ⟨.bool b, .bool b, told_one ⟨eu, rfl⟩ (by unfold isAggA; rw [eu]) rfl rfl .bool es⟩
        · rename_i k
          simp only [Bool.and_eq_true] at hg
          obtain rfl := Nat.eq_of_beq_eq_true hg.1
          obtain ⟨m, rfl, _, hw⟩ := DataW.trod_int hu h
          exact ⟨.int m, .int k m, told_one ⟨k, eu, rfl⟩ (agg_int eu) rfl rfl (wf_int hg.2 hw) es⟩
        · obtain rfl := Nat.eq_of_beq_eq_true hg
          obtain ⟨s, rfl, _, hl⟩ := DataW.trod_string hu h
          refine ⟨.str (bytesN s), .string s, told_one ⟨eu, s, rfl, rfl⟩ (by unfold isAggA; rw [eu]) rfl rfl (.str ?_ (bytesN_lt s)) es⟩
          rw [bytesN_len]
          have : maxLen = 9223372036854775807 := by decide
          omega
        all_goals first
          | (rename_i fs
             simp only [Bool.and_eq_true] at hg
             obtain ⟨⟨hg1, hg2⟩, hg3⟩ := hg
             cases ec : contig (szA tb) fs.toList 0 with
             | none => rw [ec] at hg2; cases hg2
             | some m =>
               rw [ec] at hg2
               obtain rfl := Nat.eq_of_beq_eq_true hg2
               obtain ⟨xs, k, rfl, rfl, hl, hlen, hfld⟩ := DataW.trod_struct hu h
               have hml : m = cs.length := by rw [hl, cellsOf_ok ok es]
               obtain ⟨ps, h1, h2, h3, h4, h5⟩ := fields_rel (tb := tb) (W := W) (n := 0) (Q := fun t cs => t ∈ G ∧ ∃ y, DataW.trod enc P W base spare held k t cs = some y)
                 (fun t cs ⟨hm, y, hy⟩ => ih k t cs y (by omega) hm hy) P.cellsOf (fun t m h => cellsOf_ok ok h) fs.toList 0 m cs ec hml (fun f hf => by
                   refine ⟨memN_in (List.all_eq_true.1 hg1 f hf), ?_⟩
                   obtain ⟨i, hi⟩ := List.getElem?_of_mem hf
                   have hi' : fs[i]? = some f := by rw [← Array.getElem?_toList]; exact hi
                   have := hfld i f hi'
                   have hlt : i < xs.length := by rw [hlen]; exact (Array.getElem?_eq_some_iff.1 hi').1
                   rw [List.getElem?_eq_getElem hlt] at this
                   exact ⟨_, this⟩)
               refine ⟨.node ps, .agg cs.toArray, ⟨.inl ⟨fs, cs.toArray, eu, rfl, ?_, h1⟩, .inl ⟨by unfold isAggA; rw [eu], _, rfl⟩, rfl, fun c hc => h4 c (by rw [List.drop_zero]; exact hc), .node ?_ h3, by rw [es, hml]⟩⟩
               · rw [es, hml]; simp
               · have := Nat.blt_eq ▸ hg3
                 rw [h2]; simp only [Nat.blt_eq] at hg3; omega)
          | (rename_i e
             simp only [Bool.and_eq_true] at hg
             obtain ⟨⟨hg1, hg2⟩, hg3⟩ := hg
             obtain rfl := Nat.eq_of_beq_eq_true hg1
             have ha : isAggA tb t = some false := by unfold isAggA; rw [eu]
             cases ee : szA tb e with
             | none => rw [ee] at hg3; cases hg3
             | some sz =>
               rw [ee] at hg3
               cases sz with
               | zero => cases hg3
               | succ z =>
                 rcases DataW.trod_slice hu h with ⟨rfl, -⟩ | ⟨a, len, cap, elems, rest, m, rfl, rfl, -, -, hl, hm, hlen, hx, -⟩
                 · exact ⟨.node [], .slice none 0 0, told_one (.inr (.inr ⟨e, none, 0, eu, rfl, Nat.le_refl _, .inl rfl⟩)) ha rfl rfl (.node (by simp) (fun p hp => by cases hp)) es⟩
                 · have hce : P.cellsOf e = z + 1 := cellsOf_ok ok ee
                   have key : ∀ i : Nat, ∃ cs' : List Value, i < len → (∃ p v, Told tb W e cs' p v) ∧ cs'.length = z + 1 ∧ ∀ j, j < z + 1 → W.cell? ((a.add (i * (z + 1))).add j) = cs'[j]? := by
                     intro i
                     by_cases hi : i < len
                     · have h1 := hx i hi
                       rw [List.getElem?_eq_getElem (by omega)] at h1
                       obtain ⟨cs', h2, h3⟩ := Option.bind_eq_some_iff.1 h1
                       obtain ⟨-, hcl, hcell⟩ := World.cells?_some h2
                       rw [hce] at hcl hcell
                       exact ⟨cs', fun _ => ⟨ih m e cs' _ (by omega) (memN_in hg2) h3, hcl, hcell⟩⟩
                     · exact ⟨[], fun h => absurd h hi⟩
                   have hmx : maxLen = 9223372036854775807 := by decide
                   by_cases h0 : len = 0
                   · subst h0
                     exact ⟨.node [], .slice (some a) 0 cap, told_one (.inr (.inr ⟨e, some a, cap, eu, rfl, Nat.zero_le _, .inl rfl⟩)) ha rfl rfl (.node (by simp) (fun p hp => by cases hp)) es⟩
                   · have hsp : a.spot = none := by
                       obtain ⟨cs', hk⟩ := key 0
                       obtain ⟨_, hcl, hc0⟩ := hk (by omega)
                       have h1 := hc0 0 (by omega)
                       rw [List.getElem?_eq_getElem (by omega)] at h1
                       rw [Nat.zero_mul] at h1
                       have e1 : (a.add 0).add 0 = a := by simp [Addr.add]
                       rw [e1] at h1
                       unfold World.cell? at h1
                       cases hs : a.spot with
                       | none => rfl
                       | some q =>
                         rw [hs] at h1
                         split at h1 <;> simp at h1
                     have hadd : ∀ n, a.add n = ⟨a.block, a.off + n, none⟩ := by
                       intro n
                       unfold Addr.add
                       by_cases hn : n = 0
                       · subst hn; rw [if_pos rfl]; cases a; simp only at hsp; subst hsp; rfl
                       · rw [if_neg hn]
                     obtain ⟨ps, p1, p2, p3⟩ := elems_rel (tb := tb) (W := W) (b := a.block) ee len a.off (fun i => (key i).choose) fun i hi => ⟨((key i).choose_spec hi).1, fun j hj => by
                       rw [← ((key i).choose_spec hi).2.2 j hj, Addr.add_add, hadd, Nat.add_assoc]⟩
                     refine ⟨.node ps, .slice (some a) len cap, told_one (.inr (.inr ⟨e, some a, cap, eu, by rw [p1], by omega, .inr ⟨a.block, a.off, z + 1, ?_, ee, p2⟩⟩)) ha rfl rfl (.node (by omega) p3) es⟩
                     cases a; simp only at hsp; subst hsp; rfl)
end
end Px
end

section
namespace Px
open Go Go.RowKit Go.ChangeShapes Go.WideShapes
set_option linter.unusedVariables false
set_option linter.unusedSimpArgs false
/-- Data as arguments. -/
noncomputable def argsV (tb : Tab) : List TypeId → List PV → List AV
  | t :: ts, p :: ps => (expandV tb t p).getD .dead :: argsV tb ts ps
  | _, _ => []
section
variable {P : Program} {tb : Tab} {H : Type} {enc : TypeId × Value → H} {W W' : World}
theorem expand_good {G : List Nat} {t : TypeId} {p : PV} (hg : goodT tb G t = true) : ∃ a, expandV tb t p = some a := by
  unfold goodT at hg
  unfold expandV
  cases eu : und tb t with
  | none => rw [eu] at hg; cases hg
  | some d =>
    cases es : szA tb t with
    | none => rw [eu, es] at hg; cases d <;> cases hg
    | some n =>
      rw [eu, es] at hg
      cases d <;> first | (cases hg; done) | exact ⟨_, rfl⟩
/-- A value is what was told of its cells. -/
theorem told_val {rr : Reach} {b0 : Nat} (ok : TabOk P tb) {G : List Nat} {t : TypeId} {p : PV} {v u : Value} (hg : goodT tb G t = true) (hv : Value.okWide P W rr b0 t v) (h : Told tb W t v.cells.toList p u) : u = v := by
  have hc := h.cells
  unfold goodT at hg
  cases eu : und tb t with
  | none => rw [eu] at hg; cases hg
  | some d =>
    cases es : szA tb t with
    | none => rw [eu, es] at hg; cases d <;> cases hg
    | some n =>
      rw [eu, es] at hg
      have hu := und_ok ok eu
      cases d <;> first | (cases hg; done) | skip
      · obtain ⟨b, rfl⟩ := okWide_bool hu hv
        obtain ⟨_, rfl⟩ := relP_bool eu h.rel
        simpa [Value.cells] using hc
      · obtain ⟨b, rfl⟩ := okWide_int hu hv
        obtain ⟨_, rfl⟩ := relP_int eu h.rel
        simpa [Value.cells] using hc
      · obtain ⟨b, rfl⟩ := okWide_string hu hv
        obtain ⟨_, ba, rfl, _⟩ := relP_str eu h.rel
        simpa [Value.cells] using hc
      all_goals first
        | (obtain ⟨xs, rfl, _⟩ := okWide_struct hu hv
           obtain ⟨_, ys, rfl, _⟩ := relP_struct eu h.rel
           simp only [Value.cells] at hc
           rw [Array.ext' hc])
        | (obtain ⟨a, len, cap, rfl⟩ := okWide_slice hu hv
           obtain ⟨_, A, c, rfl, _⟩ := relP_slice eu h.rel
           simpa [Value.cells] using hc)
/-- Arguments, told by data. -/
theorem args_told {rr : Reach} {b0 : Nat} (ok : TabOk P tb) {G : List Nat} (hG : goodB tb G = true) : ∀ (ts : List TypeId) (vs : List Value) (ds : List (DataW H)) (q : List MemPlace), (∀ t ∈ ts, t ∈ G) → (∀ (j : Nat) t v, ts[j]? = some t → vs[j]? = some v → Value.okWide P W rr b0 t v) →
    DataW.TrodAll enc P W 0 (fun _ => true) true ts vs ds q → ∃ ps : List PV, ps.length = ts.length ∧ RelL tb (dataMu (fzOf W)) (argsV tb ts ps) vs ∧ (∀ (j : Nat) t p, ts[j]? = some t → ps[j]? = some p → WfP p ∧ ∃ v, RelP tb (fzOf W) t p v)
  | [], vs, ds, q, hm, hv, h => by
    obtain ⟨rfl, _, _⟩ := trodAll_nil h
    exact ⟨[], rfl, rfl, fun j t p h => by simp at h⟩
  | t :: ts, vs, ds, q, hm, hv, h => by
    obtain ⟨v, vs', d, ds', q0, q1, rfl, rfl, rfl, ⟨m, h0⟩, h1⟩ := trodAll_cons h
    have hmt := hm t (List.mem_cons_self ..)
    have hg := List.all_eq_true.1 hG t hmt
    obtain ⟨p, u, tl⟩ := trod_told ok hG m m t _ _ (Nat.le_refl _) hmt h0
    obtain rfl := told_val ok hg (hv 0 t v rfl rfl) tl
    obtain ⟨ps, e1, e2, e3⟩ := args_told ok hG ts vs' ds' q1 (fun x hx => hm x (List.mem_cons_of_mem _ hx)) (fun j x y hx hy => hv (j + 1) x y (by simpa using hx) (by simpa using hy)) h1
    obtain ⟨a, ha⟩ := expand_good (p := p) hg
    refine ⟨p :: ps, by simp [e1], ?_, fun j x y hx hy => ?_⟩
    · simp only [argsV, ha, Option.getD_some]
      exact RelL.cons (expandV_ok ha tl.rel) e2
    · cases j with
      | zero => simp at hx hy; subst hx; subst hy; exact ⟨tl.wf, _, tl.rel⟩
      | succ j => exact e3 j x y (by simpa using hx) (by simpa using hy)
theorem args_len : ∀ {ts : List TypeId} {vs : List Value} {ds : List (DataW H)} {q : List MemPlace}, DataW.TrodAll enc P W 0 (fun _ => true) true ts vs ds q → ds.length = ts.length
  | [], vs, ds, q, h => by
    obtain ⟨rfl, rfl, rfl⟩ := trodAll_nil h
    rfl
  | t :: ts, vs, ds, q, h => by
    obtain ⟨v, vs', d, ds', q0, q1, rfl, rfl, rfl, h0, h1⟩ := trodAll_cons h
    simp [args_len h1]
/-- Arguments stay as they were. -/
theorem args_stay (hl : laidOutB P = true) (hb : Below W.heap.size W W') : ∀ (ts : List TypeId) (vs : List Value) (ds : List (DataW H)) (q : List MemPlace), (∀ t ∈ ts, P.readableRec t = true ∧ t < P.types.size) →
    DataW.TrodAll enc P W 0 (fun _ => true) true ts vs ds q → DataW.TrodAll enc P W' 0 (fun b => decide (b < W.heap.size)) true ts vs ds q
  | [], vs, ds, q, hm, h => by
    obtain ⟨rfl, rfl, rfl⟩ := trodAll_nil h
    exact trodAll_mk0
  | t :: ts, vs, ds, q, hm, h => by
    obtain ⟨v, vs', d, ds', q0, q1, rfl, rfl, rfl, h0, h1⟩ := trodAll_cons h
    have lt : ∀ x ∈ q0, x.block < W.heap.size := by obtain ⟨m, hm⟩ := h0; exact DataW.trod_lt m _ _ _ hm
    exact trodAll_cons_mk (Below.trod hl (hm t (List.mem_cons_self ..)).1 (hm t (List.mem_cons_self ..)).2 h0 hb lt) (args_stay hl hb ts vs' ds' q1 (fun x hx => hm x (List.mem_cons_of_mem _ hx)) h1)
/-- Enough: nothing that was there turns, and no name is told. -/
theorem inv_below {B : Bs} {μ : Mu} {w w' : World} (I : Inv tb B μ (fun i => ([] : List AObj)[i]?) w) (h : Below w.heap.size w w') : Inv tb B μ (fun i => ([] : List AObj)[i]?) w' := by
  have no : ∀ x b, ¬ Owns μ (fun i => ([] : List AObj)[i]?) x b := fun x b hx => by
    unfold Owns at hx
    simp only [List.getElem?_nil] at hx
  refine ⟨I.fr.trans (S' := fun _ => False) (Fr.of_below h) (fun _ _ x => x) (fun _ _ x => x.elim), fun b o v hv => ?_, I.fzb, fun x b hx => (no x b hx).elim, I.pdom, I.sdom, fun x o ho => (by simp at ho), fun x y b _ hx => (no x b hx).elim⟩
  obtain ⟨h1, h2⟩ := I.fz b o v hv
  refine ⟨?_, h2⟩
  have hlt : b < w.heap.size := by
    rcases Nat.lt_or_ge b w.heap.size with hb | hb
    · exact hb
    · unfold World.cell? at h1
      rw [Array.getElem?_eq_none hb] at h1
      cases h1
  unfold World.cell? at h1 ⊢
  rw [h.block b hlt]
  exact h1
/-- A given function without arguments that answers true. -/
noncomputable def aliveG : List AV → List AObj → Ans
  | [], [] => some (.bool true, [])
  | _, _ => none
theorem alive_given (ok : TabOk P tb) {f : FuncId} {fn : Func} {code : Code} {t : TypeId} (hn : fn.name ≠ "runtime.NumGoroutine") (hf : tb.fn.look f = some fn) (hb : fn.body = some code) (ht : fn.resultTypes.toList = [t]) (hu : und tb t = some .bool)
    (hc : ∀ w, Calls P f #[] w fun e w' => e = .returned (.bool true) ∧ Below w.heap.size w w') : CxOk P tb (fun g args objs => match (bif Nat.beq g f then some aliveG else none) with | some h => h args objs | none => none) := by
  intro g fn' args objs p ls hg h
  cases e : Nat.beq g f with
  | false => simp [e] at h
  | true =>
    have e := Nat.eq_of_beq_eq_true e
    subst e
    rw [hf] at hg; cases hg
    intro B μ w us hI hr hpl
    have e2 : Nat.beq g g = true := by rw [Nat.beq_eq]
    simp only [e2, cond_true] at h
    cases args with
    | cons a l => simp [aliveG] at h
    | nil =>
      cases objs with
      | cons o l => simp [aliveG] at h
      | nil =>
        simp only [aliveG, Option.some.injEq, Prod.mk.injEq] at h
        obtain ⟨rfl, rfl⟩ := h
        obtain rfl : us = [] := hr
        refine ⟨?_, (hc w).mono fun e w' ⟨he, hw⟩ => ⟨_, μ, he, ⟨inv_below hI hw, fun _ _ _ h => h, fun _ _ h => h, rfl, fun i r h => (by simp [refillOs] at h), fun i r h => (by simp [refillOs] at h)⟩, ?_⟩⟩
        · have hfn := ok.fn g fn hf
          simp [callFunc, hfn, hb, hn]
        · rw [ht]; exact ⟨hu, rfl⟩
end
end Px
end

section
namespace Px
open Go Go.RowKit
set_option linter.unusedVariables false
set_option linter.unusedSimpArgs false
/-! What a run comes to, looked at as plain Lean. -/
@[simp] theorem i_int (n : Int) : (PV.int n).i = n := rfl
@[simp] theorem b_bool (b : Bool) : (PV.bool b).b = b := rfl
@[simp] theorem s_str (s : List Nat) : (PV.str s).s = s := rfl
@[simp] theorem l_node (l : List PV) : (PV.node l).l = l := rfl
@[simp] theorem at_0 (p : PV) (l : List PV) : (PV.node (p :: l)).at 0 = p := rfl
@[simp] theorem at_s (p : PV) (l : List PV) (i : Nat) : (PV.node (p :: l)).at (i + 1) = (PV.node l).at i := rfl
@[simp] theorem at_1 (a b : PV) (l : List PV) : (PV.node (a :: b :: l)).at 1 = b := rfl
@[simp] theorem at_2 (a b c : PV) (l : List PV) : (PV.node (a :: b :: c :: l)).at 2 = c := rfl
@[simp] theorem at_3 (a b c d : PV) (l : List PV) : (PV.node (a :: b :: c :: d :: l)).at 3 = d := rfl
@[simp] theorem at_4 (a b c d e : PV) (l : List PV) : (PV.node (a :: b :: c :: d :: e :: l)).at 4 = e := rfl
@[simp] theorem hd_cons (p : PV) (l : List PV) : hd (p :: l) = p := rfl
@[simp] theorem tl_cons (p : PV) (l : List PV) : tl (p :: l) = l := rfl
@[simp] theorem bindA_some (p : PV) (l : List PV) (K : PV → List PV → Ans) : bindA (some (p, l)) K = K p l := rfl
@[simp] theorem needA_true (r : Ans) : needA true r = r := rfl
theorem needA_of {q : Bool} {r : Ans} (h : q = true) : needA q r = r := by rw [h]; rfl
@[simp] theorem notB_true : notB true = false := rfl
@[simp] theorem notB_false : notB false = true := rfl
@[simp] theorem cond_same {α : Type} (b : Bool) (x : α) : (bif b then x else x) = x := by cases b <;> rfl
theorem eqI_iff (x y : Int) : eqI x y = decide (x = y) := by unfold eqI; by_cases h : x = y <;> simp [h]
theorem ltI_eq (x y : Int) : ltI x y = decide (x < y) := rfl
theorem leI_eq (x y : Int) : leI x y = decide (x ≤ y) := rfl
theorem eqS_iff (a b : List Nat) : eqS a b = decide (a = b) := by unfold eqS; by_cases h : a = b <;> simp [h]
theorem eqB_iff (a b : Bool) : eqB a b = decide (a = b) := by cases a <;> cases b <;> rfl
theorem ltI_t {x y : Int} (h : x < y) : ltI x y = true := decide_eq_true h
theorem ltI_f {x y : Int} (h : ¬ x < y) : ltI x y = false := decide_eq_false h
theorem leI_t {x y : Int} (h : x ≤ y) : leI x y = true := decide_eq_true h
theorem leI_f {x y : Int} (h : ¬ x ≤ y) : leI x y = false := decide_eq_false h
theorem eqI_t {x y : Int} (h : x = y) : eqI x y = true := by rw [eqI_iff, decide_eq_true h]
theorem eqI_f {x y : Int} (h : ¬ x = y) : eqI x y = false := by rw [eqI_iff, decide_eq_false h]
theorem eqS_t {x y : List Nat} (h : x = y) : eqS x y = true := by rw [eqS_iff, decide_eq_true h]
theorem eqS_f {x y : List Nat} (h : ¬ x = y) : eqS x y = false := by rw [eqS_iff, decide_eq_false h]
theorem minI_eq (x y : Int) : minI x y = min x y := by
  unfold minI
  by_cases h : x < y
  · simp [h]; omega
  · simp [h]; omega
theorem maxI_eq (x y : Int) : maxI x y = max x y := by
  unfold maxI
  by_cases h : x < y
  · simp [h]; omega
  · simp [h]; omega
theorem wrap_i64 {x : Int} (h1 : -9223372036854775808 ≤ x) (h2 : x ≤ 9223372036854775807) : IntKind.i64.wrap x = x := by
  show (if IntKind.i64.signed && decide (x % (2 ^ 64 : Int) ≥ (2 ^ 63 : Int)) then x % (2 ^ 64 : Int) - (2 ^ 64 : Int) else x % (2 ^ 64 : Int)) = x
  have e1 : (2 ^ 64 : Int) = 18446744073709551616 := by decide
  have e2 : (2 ^ 63 : Int) = 9223372036854775808 := by decide
  rw [e1, e2]
  have e3 : IntKind.i64.signed = true := rfl
  rw [e3, Bool.true_and]
  by_cases h : x % 18446744073709551616 ≥ 9223372036854775808
  · rw [if_pos (decide_eq_true h)]; omega
  · rw [if_neg (by simpa using h)]; omega
theorem addW_i64 {x y : Int} (h1 : -9223372036854775808 ≤ x + y) (h2 : x + y ≤ 9223372036854775807) : addW .i64 x y = x + y := wrap_i64 h1 h2
theorem subW_i64 {x y : Int} (h1 : -9223372036854775808 ≤ x - y) (h2 : x - y ≤ 9223372036854775807) : subW .i64 x y = x - y := wrap_i64 h1 h2
theorem mulW_i64 {x y : Int} (h1 : -9223372036854775808 ≤ x * y) (h2 : x * y ≤ 9223372036854775807) : mulW .i64 x y = x * y := wrap_i64 h1 h2
theorem lenP_map {α : Type} (f : α → PV) (l : List α) : lenP (l.map f) = (l.length : Int) := by simp [lenP]
theorem getP_map {α : Type} (f : α → PV) (l : List α) (i : Nat) (h : i < l.length) : getP (l.map f) (i : Int) = f l[i] := by
  simp [getP, List.getD, h]
theorem inP_nat {l : List PV} {i : Nat} (h : i < l.length) : inP l (i : Int) = true := by simp [inP]; omega
theorem inP_map {α : Type} {f : α → PV} {l : List α} {i : Nat} (h : i < l.length) : inP (l.map f) (i : Int) = true := inP_nat (by simpa using h)
theorem smallP_of {a b : List PV} (h : a.length + b.length < 1000000) : smallP a b = true := by simp only [smallP, Nat.blt_eq]; exact h
/-! Facts that stand for every run that is long enough. -/
def Ev (P : Nat → Prop) : Prop := ∃ K, ∀ k, K ≤ k → P k
theorem Ev.of {P : Nat → Prop} (h : ∀ k, P k) : Ev P := ⟨0, fun k _ => h k⟩
theorem Ev.ge (n : Nat) : Ev fun k => n ≤ k := ⟨n, fun k h => h⟩
theorem Ev.mono {P Q : Nat → Prop} (h : Ev P) (hq : ∀ k, P k → Q k) : Ev Q := by obtain ⟨K, h⟩ := h; exact ⟨K, fun k hk => hq k (h k hk)⟩
theorem Ev.and {P Q : Nat → Prop} (h : Ev P) (h' : Ev Q) : Ev fun k => P k ∧ Q k := by
  obtain ⟨K, h⟩ := h
  obtain ⟨K', h'⟩ := h'
  exact ⟨max K K', fun k hk => ⟨h k (by omega), h' k (by omega)⟩⟩
theorem Ev.list {α : Type} {P : α → Nat → Prop} : ∀ {l : List α}, (∀ a ∈ l, Ev (P a)) → Ev fun k => ∀ a ∈ l, P a k
  | [], _ => ⟨0, fun k _ a h => by cases h⟩
  | x :: l, h => by
    refine ((h x (List.mem_cons_self ..)).and (Ev.list (l := l) fun a ha => h a (List.mem_cons_of_mem _ ha))).mono fun k hk a ha => ?_
    rcases List.mem_cons.1 ha with rfl | ha
    · exact hk.1
    · exact hk.2 a ha
theorem Ev.all {α : Type} {P : α → Nat → Prop} (n : Nat) (f : Nat → α) (h : ∀ i, i < n → Ev (P (f i))) : Ev fun k => ∀ i, i < n → P (f i) k := by
  induction n with
  | zero => exact ⟨0, fun k _ i h => by omega⟩
  | succ n ih =>
    refine ((ih fun i hi => h i (by omega)).and (h n (by omega))).mono fun k hk i hi => ?_
    by_cases e : i = n
    · subst e; exact hk.2
    · exact hk.1 i (by omega)
theorem Ev.some {P : Nat → Prop} (h : Ev P) : ∃ k, P k := by obtain ⟨K, h⟩ := h; exact ⟨K, h K (Nat.le_refl _)⟩
/-- What a function of data answers: the same as Does, as a fact of long runs. -/
theorem Does.ev {tb : Tab} {f : FuncId} {args : List AV} {p : PV} (h : Does tb f args p) : Ev fun k => callX tb k f args [] = some (p, []) := h
theorem Does.step {tb : Tab} {f : FuncId} {args : List AV} {p : PV} (hg : tb.given f = none) (h : Ev fun k => bodyX tb (callX tb k) k f args [] = some (p, [])) : Does tb f args p := does_of hg h
/-- The same with memory handed over. -/
def DoesM (tb : Tab) (f : FuncId) (args : List AV) (objs : List AObj) (p : PV) (ls : List PV) : Prop := Ev fun k => callX tb k f args objs = some (p, ls)
theorem DoesM.step {tb : Tab} {f : FuncId} {args : List AV} {objs : List AObj} {p : PV} {ls : List PV} (hg : tb.given f = none) (h : Ev fun k => bodyX tb (callX tb k) k f args objs = some (p, ls)) : DoesM tb f args objs p ls := by
  obtain ⟨K, h⟩ := h
  refine ⟨K + 1, fun k hk => ?_⟩
  obtain ⟨j, rfl⟩ : ∃ j, k = j + 1 := ⟨k - 1, by omega⟩
  rw [callX_succ hg]
  exact h j (by omega)
/-! Loops over a list. -/
section
variable {α β : Type}
/-- Gone through from the i-th on, until one ends it. -/
def runL (f : Nat → α → β → β ⊕ (PV × List PV)) : Nat → List α → β → β ⊕ (PV × List PV)
  | _, [], b => .inl b
  | i, a :: l, b => match f i a b with
    | .inl b' => runL f (i + 1) l b'
    | .inr r => .inr r
/-- What a list gone through comes to. -/
def endL (fin : β → PV × List PV) : β ⊕ (PV × List PV) → PV × List PV
  | .inl b => fin b
  | .inr r => r
theorem loopX_list {round : List PV → (PV → List PV → Ans) → Ans} (l : List α) (st : Nat → β → List PV) (f : Nat → α → β → β ⊕ (PV × List PV)) (fin : β → PV × List PV) (I : Nat → β → Prop)
    (hstep : ∀ i a b, l[i]? = some a → I i b → (∀ K, round (st i b) K = match f i a b with | .inl b' => K (.int 0) (st (i + 1) b') | .inr r => K r.1 r.2) ∧ (match f i a b with | .inl b' => I (i + 1) b' | .inr r => eqI r.1.i 0 = false))
    (hend : ∀ b, I l.length b → (∀ K, round (st l.length b) K = K (fin b).1 (fin b).2) ∧ eqI (fin b).1.i 0 = false) {m : Nat} (hm : l.length < m) {b0 : β} (h0 : I 0 b0) :
    loopX m round (st 0 b0) = some (endL fin (runL f 0 l b0)) := by
  have key : ∀ (rest : List α) (i m : Nat) (b : β), l.drop i = rest → i ≤ l.length → I i b → rest.length < m → loopX m round (st i b) = some (endL fin (runL f i rest b)) := by
    intro rest
    induction rest with
    | nil =>
      intro i m b hd hi hI hm
      obtain ⟨m, rfl⟩ : ∃ j, m = j + 1 := ⟨m - 1, by simp at hm; omega⟩
      obtain rfl : i = l.length := by
        have := congrArg List.length hd
        simp at this
        omega
      obtain ⟨h1, h2⟩ := hend b hI
      show round (st l.length b) (fun c' ls' => @Bool.rec (fun _ => Ans) (some (c', ls')) (loopX m round ls') (eqI c'.i 0)) = _
      rw [h1, h2]
      rfl
    | cons a rest ih =>
      intro i m b hd hi hI hm
      obtain ⟨m, rfl⟩ : ∃ j, m = j + 1 := ⟨m - 1, by simp at hm; omega⟩
      have hlt : i < l.length := by
        rcases Nat.lt_or_ge i l.length with h | h
        · exact h
        · rw [List.drop_eq_nil_of_le h] at hd; cases hd
      have ha : l[i]? = some a := by
        rw [List.drop_eq_getElem_cons hlt] at hd
        injection hd with h1 h2
        rw [List.getElem?_eq_getElem hlt, h1]
      have hd' : l.drop (i + 1) = rest := by
        rw [List.drop_eq_getElem_cons hlt] at hd
        injection hd
      obtain ⟨h1, h2⟩ := hstep i a b ha hI
      show round (st i b) (fun c' ls' => @Bool.rec (fun _ => Ans) (some (c', ls')) (loopX m round ls') (eqI c'.i 0)) = _
      rw [h1]
      unfold runL
      cases e : f i a b with
      | inl b' =>
        rw [e] at h2
        simp only
        have : eqI (PV.int 0).i 0 = true := by decide
        rw [this]
        exact ih (i + 1) m b' hd' (by omega) h2 (by simp at hm; omega)
      | inr r =>
        rw [e] at h2
        simp only
        rw [h2]
        rfl
  exact key l 0 m b0 rfl (Nat.zero_le _) h0 hm
theorem runL_fold {f : Nat → α → β → β ⊕ (PV × List PV)} {g : β → α → β} (h : ∀ i a b, f i a b = .inl (g b a)) : ∀ (l : List α) (i : Nat) (b : β), runL f i l b = .inl (l.foldl g b)
  | [], i, b => rfl
  | a :: l, i, b => by unfold runL; rw [h]; exact runL_fold h l (i + 1) (g b a)
end
/-- A loop that goes through a list and gathers. -/
theorem loopX_fold {α β : Type} {round : List PV → (PV → List PV → Ans) → Ans} (l : List α) (st : Nat → β → List PV) (g : β → α → β) (c : PV) (out : β → List PV) (I : Nat → β → Prop) (hc : eqI c.i 0 = false)
    (hstep : ∀ i a b, l[i]? = some a → I i b → (∀ K, round (st i b) K = K (.int 0) (st (i + 1) (g b a))) ∧ I (i + 1) (g b a))
    (hend : ∀ b, I l.length b → ∀ K, round (st l.length b) K = K c (out b)) {m : Nat} (hm : l.length < m) {b0 : β} (h0 : I 0 b0) :
    loopX m round (st 0 b0) = some (c, out (l.foldl g b0)) := by
  have := loopX_list (round := round) l st (fun _ a b => .inl (g b a)) (fun b => (c, out b)) I (fun i a b ha hI => hstep i a b ha hI) (fun b hI => ⟨hend b hI, hc⟩) hm h0
  rw [this, runL_fold (f := fun _ a b => .inl (g b a)) (g := g) (fun _ _ _ => rfl)]
  rfl
/-- A loop that looks for the first of a list for which something is so. -/
theorem loopX_find {α : Type} {round : List PV → (PV → List PV → Ans) → Ans} (l : List α) (st : Nat → List PV) (q : α → Bool) (r : Nat → PV × List PV) (fin : PV × List PV) (hc : eqI fin.1.i 0 = false) (hr : ∀ i, eqI (r i).1.i 0 = false)
    (hstep : ∀ i a, l[i]? = some a → ∀ K, round (st i) K = bif q a then K (r i).1 (r i).2 else K (.int 0) (st (i + 1)))
    (hend : ∀ K, round (st l.length) K = K fin.1 fin.2) {m : Nat} (hm : l.length < m) :
    loopX m round (st 0) = some (match l.findIdx? q with | some i => r i | none => fin) := by
  have := loopX_list (β := Unit) (round := round) l (fun i _ => st i) (fun i a b => bif q a then .inr (r i) else .inl ()) (fun _ => fin) (fun _ _ => True) (fun i a b ha _ => ⟨fun K => by rw [hstep i a ha K]; cases q a <;> rfl, by cases q a <;> simp [hr]⟩) (fun b _ => ⟨hend, hc⟩) hm (b0 := ()) trivial
  rw [this]
  have key : ∀ (l : List α) (i : Nat), runL (fun i a (b : Unit) => bif q a then .inr (r i) else .inl ()) i l () = (match l.findIdx? q with | some j => .inr (r (i + j)) | none => .inl ()) := by
    intro l
    induction l with
    | nil => intro i; rfl
    | cons a l ih =>
      intro i
      unfold runL
      rw [List.findIdx?_cons]
      cases h : q a with
      | true => simp
      | false =>
        simp only [cond_false]
        rw [ih (i + 1)]
        cases l.findIdx? q with
        | none => simp
        | some j => simp [Nat.add_assoc, Nat.add_comm 1 j]
  rw [key l 0]
  cases l.findIdx? q with
  | none => rfl
  | some j => simp [endL]
end Px
end

section
namespace Px
set_option linter.unusedVariables false
/-- A term of the program's api, as a tree. -/
inductive Tm where
  | mk (k : Int) (p s : List Nat) (n : Int) (l : List Tm)
end Px
end

section
namespace Px

set_option linter.unusedVariables false
set_option linter.unusedSimpArgs false
/-! How deep data lie. -/
mutual
def dp : PV → Nat
  | .node l => 1 + dpL l
  | _ => 0
def dpL : List PV → Nat
  | [] => 0
  | p :: l => dp p + dpL l
end
theorem dp_mem {q : PV} : ∀ {l : List PV}, q ∈ l → dp q ≤ dpL l
  | [], h => by cases h
  | p :: l, h => by
    rcases List.mem_cons.1 h with rfl | h
    · simp [dpL]
    · have := dp_mem h; simp [dpL]; omega
theorem dp_node (l : List PV) : dp (.node l) = 1 + dpL l := by rw [dp]
theorem dpL_l (p : PV) : dpL p.l ≤ dp p := by cases p <;> simp [PV.l, dp, dpL]
theorem dpL5 (a b c d e : PV) : dpL [a, b, c, d, e] = dp a + (dp b + (dp c + (dp d + dp e))) := by simp [dpL]
namespace Tm
@[simp] def k : Tm → Int | .mk k _ _ _ _ => k
@[simp] def p : Tm → List Nat | .mk _ p _ _ _ => p
@[simp] def s : Tm → List Nat | .mk _ _ s _ _ => s
@[simp] def n : Tm → Int | .mk _ _ _ n _ => n
@[simp] def l : Tm → List Tm | .mk _ _ _ _ l => l
mutual
def enc : Tm → PV
  | .mk k p s n l => .node [.int k, .str p, .str s, .int n, .node (encs l)]
def encs : List Tm → List PV
  | [] => []
  | t :: l => enc t :: encs l
end
theorem encs_map : ∀ (l : List Tm), encs l = l.map enc
  | [] => rfl
  | t :: l => by rw [encs, encs_map l]; rfl
theorem enc_mk (k : Int) (p s : List Nat) (n : Int) (l : List Tm) : enc (.mk k p s n l) = .node [.int k, .str p, .str s, .int n, .node (l.map enc)] := by rw [enc, encs_map]
@[simp] theorem enc_k (t : Tm) : (enc t).at 0 = .int t.k := by cases t; rw [enc_mk]; rfl
@[simp] theorem enc_p (t : Tm) : (enc t).at 1 = .str t.p := by cases t; rw [enc_mk]; rfl
@[simp] theorem enc_s (t : Tm) : (enc t).at 2 = .str t.s := by cases t; rw [enc_mk]; rfl
@[simp] theorem enc_n (t : Tm) : (enc t).at 3 = .int t.n := by cases t; rw [enc_mk]; rfl
@[simp] theorem enc_l (t : Tm) : (enc t).at 4 = .node (t.l.map enc) := by cases t; rw [enc_mk]; rfl
theorem ind {P : Tm → Prop} (h : ∀ k p s n l, (∀ t ∈ l, P t) → P (.mk k p s n l)) (t : Tm) : P t := by
  refine Tm.rec (motive_1 := P) (motive_2 := fun l => ∀ t ∈ l, P t) (fun k p s n l ih => h k p s n l ih) (fun t h => by cases h) (fun a l ha hl t ht => ?_) t
  rcases List.mem_cons.1 ht with rfl | ht
  · exact ha
  · exact hl t ht
mutual
def eqT : Tm → Tm → Bool
  | .mk k p s n l, .mk k' p' s' n' l' => decide (k = k') && (decide (p = p') && (decide (s = s') && (decide (n = n') && eqL l l')))
def eqL : List Tm → List Tm → Bool
  | [], [] => true
  | a :: l, b :: m => eqT a b && eqL l m
  | _, _ => false
end
mutual
theorem eqT_iff : ∀ (a b : Tm), eqT a b = true ↔ a = b
  | .mk k p s n l, .mk k' p' s' n' l' => by
    simp only [eqT, Bool.and_eq_true, decide_eq_true_eq, eqL_iff l l', Tm.mk.injEq]
theorem eqL_iff : ∀ (l m : List Tm), eqL l m = true ↔ l = m
  | [], [] => by simp [eqL]
  | [], _ :: _ => by simp [eqL]
  | _ :: _, [] => by simp [eqL]
  | a :: l, b :: m => by simp only [eqL, Bool.and_eq_true, eqT_iff a b, eqL_iff l m, List.cons.injEq]
end
theorem eqT_refl (a : Tm) : eqT a a = true := (eqT_iff a a).2 rfl
theorem enc_inj : ∀ {a b : Tm}, enc a = enc b → a = b := by
  intro a
  induction a using ind with
  | h k p s n l ih =>
    intro b h
    cases b with
    | mk k' p' s' n' l' =>
      rw [enc_mk, enc_mk] at h
      simp only [PV.node.injEq, List.cons.injEq, PV.int.injEq, PV.str.injEq, and_true] at h
      obtain ⟨rfl, rfl, rfl, rfl, h⟩ := h
      have : ∀ (l l' : List Tm), (∀ t ∈ l, ∀ {b : Tm}, enc t = enc b → t = b) → l.map enc = l'.map enc → l = l' := by
        intro l
        induction l with
        | nil => intro l' _ h; cases l' with | nil => rfl | cons => simp at h
        | cons x l ihl =>
          intro l' hx h
          cases l' with
          | nil => simp at h
          | cons y l' =>
            simp only [List.map_cons, List.cons.injEq] at h
            rw [hx x (List.mem_cons_self ..) h.1, ihl l' (fun t ht => hx t (List.mem_cons_of_mem _ ht)) h.2]
      rw [this l l' (fun t ht => ih t ht) h]
mutual
def nodes : Tm → Nat
  | .mk _ _ _ _ l => 1 + nodesL l
def nodesL : List Tm → Nat
  | [] => 0
  | t :: l => nodes t + nodesL l
end
theorem nodes_pos (t : Tm) : 1 ≤ nodes t := by cases t; simp [nodes]
theorem nodes_mem {t : Tm} : ∀ {l : List Tm}, t ∈ l → nodes t ≤ nodesL l
  | [], h => by cases h
  | x :: l, h => by
    rcases List.mem_cons.1 h with rfl | h
    · simp [nodesL]
    · have := nodes_mem h; simp [nodesL]; omega
theorem nodesL_append : ∀ (l m : List Tm), nodesL (l ++ m) = nodesL l + nodesL m
  | [], m => by simp [nodesL]
  | t :: l, m => by simp only [List.cons_append, nodesL, nodesL_append l m]; omega
theorem nodesL_take (l : List Tm) (i : Nat) : nodesL (l.take i) ≤ nodesL l := by
  have := nodesL_append (l.take i) (l.drop i)
  rw [List.take_append_drop] at this
  omega
theorem nodesL_succ {l : List Tm} {i : Nat} {t : Tm} (h : l[i]? = some t) : nodesL (l.take (i + 1)) = nodesL (l.take i) + nodes t := by
  rw [List.take_add_one, h, nodesL_append]
  simp [nodesL]
theorem nodes_fold : ∀ (l : List Tm) (a : Nat), l.foldl (fun a t => a + nodes t) a = a + nodesL l
  | [], a => by simp [nodesL]
  | t :: l, a => by simp only [List.foldl_cons, nodes_fold l, nodesL]; omega
theorem len_nodes : ∀ (l : List Tm), l.length ≤ nodesL l
  | [] => Nat.le_refl _
  | t :: l => by have := len_nodes l; have := nodes_pos t; simp [nodesL]; omega
/-- All rows of kids are no longer than so. -/
inductive Thin (N : Nat) : Tm → Prop
  | mk {k : Int} {p s : List Nat} {n : Int} {l : List Tm} (h : l.length ≤ N) (h2 : ∀ t ∈ l, Thin N t) : Thin N (.mk k p s n l)
theorem Thin.len {N : Nat} {t : Tm} (h : Thin N t) : t.l.length ≤ N := by cases h; assumption
theorem Thin.kid {N : Nat} {t u : Tm} (h : Thin N t) (hu : u ∈ t.l) : Thin N u := by cases h with | mk h h2 => exact h2 u hu
theorem thin_nodes : ∀ (t : Tm), Thin (nodes t) t := by
  have mono : ∀ {N M : Nat} (t : Tm), N ≤ M → Thin N t → Thin M t := by
    intro N M t hNM
    induction t using ind with
    | h k p s n l ih => intro h; cases h with | mk h h2 => exact .mk (by omega) fun t ht => ih t ht (h2 t ht)
  intro t
  induction t using ind with
  | h k p s n l ih =>
    refine .mk (by have := len_nodes l; simp [nodes]; omega) fun t ht => mono t ?_ (ih t ht)
    have := nodes_mem ht; simp [nodes]; omega
theorem thin_mono {N M : Nat} (hNM : N ≤ M) (t : Tm) : Thin N t → Thin M t := by
  induction t using ind with
  | h k p s n l ih => intro h; cases h with | mk h h2 => exact .mk (by omega) fun t ht => ih t ht (h2 t ht)
/-! How much a term is. -/
mutual
def wt : Tm → Nat → Nat
  | .mk _ p s _ l, d => if 90 < d then 100000 else if 300 < l.length then 100000 else min (wts l d (1 + (min p.length 100000 + min s.length 100000) / 20)) 100000
def wts : List Tm → Nat → Nat → Nat
  | [], _, a => a
  | t :: l, d, a => wts l d (if a < 100000 then a + wt t (d + 1) else a)
end
theorem wts_fold : ∀ (l : List Tm) (d a : Nat), wts l d a = l.foldl (fun a t => if a < 100000 then a + wt t (d + 1) else a) a
  | [], d, a => by rw [wts]; rfl
  | t :: l, d, a => by rw [wts, wts_fold l]; rfl
theorem wt_le (t : Tm) (d : Nat) : wt t d ≤ 100000 := by cases t; rw [wt]; split <;> (try split) <;> omega
theorem wts_ge : ∀ (l : List Tm) (d a : Nat), a ≤ wts l d a
  | [], d, a => by rw [wts]; exact Nat.le_refl _
  | t :: l, d, a => by
    rw [wts]
    refine Nat.le_trans ?_ (wts_ge l d _)
    split <;> omega
theorem wt_nodes (t : Tm) : ∀ d, wt t d < 100000 → nodes t ≤ wt t d := by
  induction t using ind with
  | h k p s n l ih =>
    intro d h
    rw [wt] at h ⊢
    by_cases h1 : 90 < d
    · rw [if_pos h1] at h; omega
    · rw [if_neg h1] at h ⊢
      by_cases h2 : 300 < l.length
      · rw [if_pos h2] at h; omega
      · rw [if_neg h2] at h ⊢
        have key : ∀ (l : List Tm) (a : Nat), (∀ t ∈ l, ∀ d, wt t d < 100000 → nodes t ≤ wt t d) → wts l d a < 100000 → a + nodesL l ≤ wts l d a := by
          intro l
          induction l with
          | nil => intro a _ h; rw [wts]; simp [nodesL]
          | cons x l ihl =>
            intro a hx h
            rw [wts] at h ⊢
            have hge := wts_ge l d (if a < 100000 then a + wt x (d + 1) else a)
            by_cases ha : a < 100000
            · rw [if_pos ha] at h hge ⊢
              have i1 := ihl (a + wt x (d + 1)) (fun t ht => hx t (List.mem_cons_of_mem _ ht)) h
              have i2 := hx x (List.mem_cons_self ..) (d + 1) (by omega)
              simp only [nodesL]; omega
            · rw [if_neg ha] at h hge; omega
        have := key l (1 + (min p.length 100000 + min s.length 100000) / 20) (fun t ht d h => ih t ht d h) (by omega)
        simp only [nodes]; omega
/-! Some in the place of variables. -/
def put (names : List (List Nat)) (bys : List Tm) (s : List Nat) : Option Tm := match names.findIdx? (fun x => decide (x = s)) with
  | some i => bys[i]?
  | none => none
mutual
def sub (names : List (List Nat)) (bys : List Tm) : Tm → Tm
  | .mk k p s n l => if k = 1 then (match put names bys s with | some t => t | none => .mk k p s n (subs names bys l)) else .mk k p s n (subs names bys l)
def subs (names : List (List Nat)) (bys : List Tm) : List Tm → List Tm
  | [] => []
  | t :: l => sub names bys t :: subs names bys l
end
theorem subs_map (names : List (List Nat)) (bys : List Tm) : ∀ l, subs names bys l = l.map (sub names bys)
  | [] => by rw [subs]; rfl
  | t :: l => by rw [subs, subs_map names bys l]; rfl
theorem sub_mk (names : List (List Nat)) (bys : List Tm) (k : Int) (p s : List Nat) (n : Int) (l : List Tm) : sub names bys (.mk k p s n l) = if k = 1 then (match put names bys s with | some t => t | none => .mk k p s n (l.map (sub names bys))) else .mk k p s n (l.map (sub names bys)) := by
  rw [sub, subs_map]
theorem put_mem {names : List (List Nat)} {bys : List Tm} {s : List Nat} {t : Tm} (h : put names bys s = some t) : t ∈ bys := by
  unfold put at h
  split at h
  · exact List.mem_of_getElem? h
  · cases h
theorem sub_thin {N : Nat} {names : List (List Nat)} {bys : List Tm} (hb : ∀ t ∈ bys, Thin N t) (t : Tm) : Thin N t → Thin N (sub names bys t) := by
  induction t using ind with
  | h k p s n l ih =>
    intro h
    have hk : Thin N (.mk k p s n (l.map (sub names bys))) := by
      cases h with
      | mk h h2 =>
        refine .mk (by simpa using h) fun t ht => ?_
        obtain ⟨u, hu, rfl⟩ := List.mem_map.1 ht
        exact ih u hu (h2 u hu)
    rw [sub_mk]
    split
    · split
      · rename_i t e
        exact hb t (put_mem e)
      · exact hk
    · exact hk
/-! The variables of a term, put behind some. -/
def snoc (out : List (List Nat)) (s : List Nat) : List (List Nat) := if s ∈ out then out else out ++ [s]
mutual
def vars : List (List Nat) → Tm → List (List Nat)
  | out, .mk k _ s _ l => varsL (if k = 1 then snoc out s else out) l
def varsL : List (List Nat) → List Tm → List (List Nat)
  | out, [] => out
  | out, t :: l => varsL (vars out t) l
end
theorem varsL_fold : ∀ (out : List (List Nat)) (l : List Tm), varsL out l = l.foldl vars out
  | out, [] => by rw [varsL]; rfl
  | out, t :: l => by rw [varsL, varsL_fold (vars out t) l]; rfl
theorem snoc_len (out : List (List Nat)) (s : List Nat) : (snoc out s).length ≤ out.length + 1 := by unfold snoc; split <;> simp
theorem vars_len (t : Tm) : ∀ out, (vars out t).length ≤ out.length + nodes t := by
  induction t using ind with
  | h k p s n l ih =>
    intro out
    have key : ∀ (l : List Tm) (out : List (List Nat)), (∀ t ∈ l, ∀ out, (vars out t).length ≤ out.length + nodes t) → (varsL out l).length ≤ out.length + nodesL l := by
      intro l
      induction l with
      | nil => intro out _; rw [varsL]; simp
      | cons x l ihl =>
        intro out hx
        rw [varsL]
        have := ihl (vars out x) fun t ht => hx t (List.mem_cons_of_mem _ ht)
        have := hx x (List.mem_cons_self ..) out
        simp only [nodesL]; omega
    rw [vars]
    have h1 := key l (if k = 1 then snoc out s else out) ih
    have h2 := snoc_len out s
    simp only [nodes]
    by_cases hk : k = 1
    · rw [if_pos hk] at h1 ⊢; omega
    · rw [if_neg hk] at h1 ⊢; omega
theorem varsL_append : ∀ (out : List (List Nat)) (l m : List Tm), varsL out (l ++ m) = varsL (varsL out l) m := by
  intro out l m
  rw [varsL_fold, varsL_fold, varsL_fold, List.foldl_append]
theorem varsL_succ {out : List (List Nat)} {l : List Tm} {i : Nat} {t : Tm} (h : l[i]? = some t) : varsL out (l.take (i + 1)) = vars (varsL out (l.take i)) t := by
  rw [List.take_add_one, h, varsL_append]
  show varsL _ [t] = _
  rw [varsL, varsL]
theorem varsL_len : ∀ (l : List Tm) (out : List (List Nat)), (varsL out l).length ≤ out.length + nodesL l
  | [], out => by rw [varsL]; simp
  | t :: l, out => by
    rw [varsL]
    have := varsL_len l (vars out t)
    have := vars_len t out
    simp only [nodesL]; omega
theorem mem_snoc {x s : List Nat} {out : List (List Nat)} : x ∈ snoc out s ↔ x ∈ out ∨ x = s := by
  unfold snoc
  split
  · rename_i h; constructor
    · exact .inl
    · rintro (h' | rfl)
      · exact h'
      · exact h
  · simp
/-- Does a variable stand in a term? -/
inductive Has (x : List Nat) : Tm → Prop
  | here {p : List Nat} {n : Int} {l : List Tm} : Has x (.mk 1 p x n l)
  | kid {k : Int} {p s : List Nat} {n : Int} {l : List Tm} {t : Tm} (ht : t ∈ l) (h : Has x t) : Has x (.mk k p s n l)
theorem has_mk {x : List Nat} {k : Int} {p s : List Nat} {n : Int} {l : List Tm} : Has x (.mk k p s n l) ↔ (k = 1 ∧ x = s) ∨ ∃ t ∈ l, Has x t := by
  constructor
  · intro h
    cases h with
    | here => exact .inl ⟨rfl, rfl⟩
    | kid ht h => exact .inr ⟨_, ht, h⟩
  · rintro (⟨rfl, rfl⟩ | ⟨t, ht, h⟩)
    · exact .here
    · exact .kid ht h
theorem mem_vars {x : List Nat} (t : Tm) : ∀ out, x ∈ vars out t ↔ x ∈ out ∨ Has x t := by
  induction t using ind with
  | h k p s n l ih =>
    intro out
    have key : ∀ (l : List Tm) (out : List (List Nat)), (∀ t ∈ l, ∀ out, x ∈ vars out t ↔ x ∈ out ∨ Has x t) → (x ∈ varsL out l ↔ x ∈ out ∨ ∃ t ∈ l, Has x t) := by
      intro l
      induction l with
      | nil => intro out _; rw [varsL]; simp
      | cons y l ihl =>
        intro out hx
        rw [varsL, ihl (vars out y) fun t ht => hx t (List.mem_cons_of_mem _ ht), hx y (List.mem_cons_self ..) out]
        simp [or_assoc]
    rw [vars, key l _ ih, has_mk]
    by_cases hk : k = 1
    · simp [hk, mem_snoc, or_assoc]
    · simp [hk]
theorem sub_none {names : List (List Nat)} {bys : List Tm} (t : Tm) : (∀ x ∈ names, ¬ Has x t) → sub names bys t = t := by
  induction t using ind with
  | h k p s n l ih =>
    intro h
    have hl : l.map (sub names bys) = l := by
      conv => rhs; rw [← List.map_id l]
      exact List.map_congr_left fun t ht => ih t ht fun x hx hh => h x hx (.kid ht hh)
    rw [sub_mk, hl]
    split
    · rename_i hk
      subst hk
      have : put names bys s = none := by
        unfold put
        have : names.findIdx? (fun x => decide (x = s)) = none := by
          rw [List.findIdx?_eq_none_iff]
          intro x hx
          have := h x hx
          simp only [decide_eq_false_iff_not]
          rintro rfl
          exact this .here
        rw [this]
      rw [this]
    · rfl
end Tm
end Px
end

section
namespace Px
open Go Go.RowKit
set_option linter.unusedVariables false
set_option linter.unusedSimpArgs false
section
variable {tb : Tab} {fz : Fz}
theorem relE_mem {e : TypeId} {sz b : Nat} : ∀ {ps : List PV} {o : Nat}, RelE tb fz e sz b ps o → ∀ q ∈ ps, ∃ u, RelP tb fz e q u
  | [], o, _, q, hq => by cases hq
  | p :: ps, o, ⟨⟨u, h, _⟩, h2⟩, q, hq => by
    rcases List.mem_cons.1 hq with rfl | hq
    · exact ⟨u, h⟩
    · exact relE_mem h2 q hq
/-- The data of a slice's elements, each by what is known of one. -/
theorem slice_of {t e : TypeId} (hu : und tb t = some (.slice e)) {α : Type} {enc : α → PV} {p : PV} {v : Value} (h : RelP tb fz t p v) (hel : ∀ q ∈ p.l, ∀ u, RelP tb fz e q u → ∃ a, q = enc a) : ∃ l : List α, p = .node (l.map enc) := by
  obtain ⟨hp, A, c, hv, hc, hr⟩ := relP_slice hu h
  have key : ∀ ps : List PV, (∀ q ∈ ps, ∃ a, q = enc a) → ∃ l : List α, ps = l.map enc := by
    intro ps
    induction ps with
    | nil => intro _; exact ⟨[], rfl⟩
    | cons q ps ih =>
      intro h
      obtain ⟨a, rfl⟩ := h q (List.mem_cons_self ..)
      obtain ⟨l, rfl⟩ := ih fun x hx => h x (List.mem_cons_of_mem _ hx)
      exact ⟨a :: l, rfl⟩
  have all : ∀ q ∈ p.l, ∃ a, q = enc a := by
    intro q hq
    rcases hr with hr | ⟨b, o, sz, _, _, hr⟩
    · rw [hr] at hq; cases hq
    · obtain ⟨u, hu'⟩ := relE_mem hr q hq
      exact hel q hq u hu'
  obtain ⟨l, hl⟩ := key p.l all
  exact ⟨l, by rw [hp, hl]⟩
theorem str_of {t : TypeId} (hu : und tb t = some .string) {p : PV} {v : Value} (h : RelP tb fz t p v) : ∃ s, p = .str s := ⟨_, (relP_str hu h).1⟩
theorem int_of {t : TypeId} {k : IntKind} (hu : und tb t = some (.int k)) {p : PV} {v : Value} (h : RelP tb fz t p v) : ∃ n, p = .int n := ⟨_, (relP_int hu h).1⟩
theorem bool_of {t : TypeId} (hu : und tb t = some .bool) {p : PV} {v : Value} (h : RelP tb fz t p v) : ∃ b, p = .bool b := ⟨_, (relP_bool hu h).1⟩
theorem strs_of {t e : TypeId} (hu : und tb t = some (.slice e)) (he : und tb e = some .string) {p : PV} {v : Value} (h : RelP tb fz t p v) : ∃ l : List (List Nat), p = .node (l.map PV.str) :=
  slice_of hu h fun q hq u hr => str_of he hr
/-- A struct's data, field by field. -/
theorem struct_of {t : TypeId} {fs : Array Field} (hu : und tb t = some (.struct fs)) {p : PV} {v : Value} (h : RelP tb fz t p v) : ∃ ps, p = .node ps ∧ ps.length = fs.toList.length ∧ ∀ (i : Nat) (f : Field) (q : PV), fs.toList[i]? = some f → ps[i]? = some q → ∃ u, RelP tb fz f.type q u := by
  obtain ⟨hp, xs, hv, hs, hr⟩ := relP_struct hu h
  have key : ∀ (ps : List PV) (fs : List Field), RelF tb fz ps fs xs.toList → ps.length = fs.length ∧ ∀ (i : Nat) (f : Field) (q : PV), fs[i]? = some f → ps[i]? = some q → ∃ u, RelP tb fz f.type q u := by
    intro ps
    induction ps with
    | nil => intro fs h; obtain rfl : fs = [] := h; exact ⟨rfl, fun i f q h => by simp at h⟩
    | cons p ps ih =>
      intro fs h
      obtain ⟨f, fs', rfl, ⟨u, sz, h1, _⟩, h2⟩ := h
      obtain ⟨h3, h4⟩ := ih fs' h2
      refine ⟨by simp [h3], fun i g q hg hq => ?_⟩
      cases i with
      | zero => simp at hg hq; subst hg; subst hq; exact ⟨u, h1⟩
      | succ i => exact h4 i g q (by simpa using hg) (by simpa using hq)
  obtain ⟨h1, h2⟩ := key p.l fs.toList hr
  exact ⟨p.l, hp, h1, h2⟩
theorem tm_of {T I S L : TypeId} {f0 f1 f2 f3 f4 : Field} (hT : und tb T = some (.struct #[f0, f1, f2, f3, f4])) (h0 : f0.type = I) (h1 : f1.type = S) (h2 : f2.type = S) (h3 : f3.type = I) (h4 : f4.type = L) {k : IntKind} (hI : und tb I = some (.int k)) (hS : und tb S = some .string) (hL : und tb L = some (.slice T)) :
    ∀ (N : Nat) (p : PV) (v : Value), dp p ≤ N → RelP tb fz T p v → ∃ t : Tm, p = t.enc := by
  intro N
  induction N with
  | zero =>
    intro p v hN h
    obtain ⟨ps, rfl, _⟩ := struct_of hT h
    rw [dp_node] at hN
    omega
  | succ N ih =>
    intro p v hN h
    obtain ⟨ps, rfl, hl, hf⟩ := struct_of hT h
    simp at hl
    rcases ps with _ | ⟨a, _ | ⟨b, _ | ⟨c, _ | ⟨d, _ | ⟨e, _ | ⟨x, ps⟩⟩⟩⟩⟩⟩ <;> simp at hl
    obtain ⟨u0, r0⟩ := hf 0 f0 a rfl rfl
    obtain ⟨u1, r1⟩ := hf 1 f1 b rfl rfl
    obtain ⟨u2, r2⟩ := hf 2 f2 c rfl rfl
    obtain ⟨u3, r3⟩ := hf 3 f3 d rfl rfl
    obtain ⟨u4, r4⟩ := hf 4 f4 e rfl rfl
    rw [h0] at r0
    rw [h1] at r1
    rw [h2] at r2
    rw [h3] at r3
    rw [h4] at r4
    obtain ⟨n0, rfl⟩ := int_of hI r0
    obtain ⟨s1, rfl⟩ := str_of hS r1
    obtain ⟨s2, rfl⟩ := str_of hS r2
    obtain ⟨n3, rfl⟩ := int_of hI r3
    obtain ⟨l, rfl⟩ := slice_of (enc := Tm.enc) hL r4 fun q hq u hr => by
      refine ih q u ?_ hr
      have h5 := dp_mem hq
      have h6 := dpL_l e
      rw [dp_node, dpL5] at hN
      omega
    exact ⟨.mk n0 s1 s2 n3 l, by rw [Tm.enc_mk]⟩
end
/-- What a term's data being right tells. -/
theorem wf_enc {k : Int} {p s : List Nat} {n : Int} {l : List Tm} (h : WfP (Tm.enc (.mk k p s n l))) : (-9223372036854775808 ≤ k ∧ k ≤ 9223372036854775807) ∧ p.length < 9223372036854775808 ∧ s.length < 9223372036854775808 ∧ (-9223372036854775808 ≤ n ∧ n ≤ 9223372036854775807) ∧ l.length < 9223372036854775808 ∧ ∀ t ∈ l, WfP t.enc := by
  rw [Tm.enc_mk] at h
  cases h with
  | node h1 h2 =>
    have a := h2 (.int k) (by simp)
    have b := h2 (.str p) (by simp)
    have c := h2 (.str s) (by simp)
    have d := h2 (.int n) (by simp)
    have e := h2 (.node (l.map Tm.enc)) (by simp)
    cases a with
    | int a1 a2 => cases b with
      | str b1 => cases c with
        | str c1 => cases d with
          | int d1 d2 => cases e with
            | node e1 e2 => exact ⟨⟨a1, a2⟩, b1, c1, ⟨d1, d2⟩, by simpa using e1, fun t ht => e2 _ (List.mem_map_of_mem ht)⟩
theorem len_wf {s : List Nat} (h : WfP (.str s)) : s.length < 9223372036854775808 := by cases h; assumption
end Px
end
