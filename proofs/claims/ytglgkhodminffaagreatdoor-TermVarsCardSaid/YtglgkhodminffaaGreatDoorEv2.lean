/- A plain run of the program's loaded form over a memory of named blocks, and that what it answers the program answers: part 2. -/
import Derived.Test.YtglgkhodminffaaGreatDoorEv1
import Derived.LoopN
import Derived.Scope
import Derived.Tactics
import Derived.Shelf.SlIter.Collect
import Derived.StringKeys
section
namespace Ev
open Go Go.RowKit
set_option linter.unusedVariables false
set_option linter.unusedSimpArgs false
section
variable {P : Program} {tb : Tab} {σ : Nat → Value} {B : Nat} {w0 : World} {Φ : Res → Prop} {cE : Nat} {b : Nat} {μ : Mu} {t : T AObj} {c : Nat} {F : Foot} {w : World} {a : AAct} {ca : Act}
theorem sameOne_ok {x y : AV} {u v : Value} (h : sameOne x y = true) (hx : Rel σ μ x u) (hy : Rel σ μ y v) (n : Nat) : Instr.sameBits n u v = true := by
  cases x <;> cases y <;> simp only [sameOne] at h <;> first | (cases h; done) | skip
  · cases hx; cases hy; cases n <;> simpa [Instr.sameBits] using h
  · cases hx; cases hy
    simp only [Bool.and_eq_true, decide_eq_true_eq] at h
    obtain ⟨rfl, h⟩ := h
    cases n <;> simpa [Instr.sameBits] using h
  · obtain ⟨ba, rfl, rfl⟩ := hx
    obtain ⟨bb, rfl, rfl⟩ := hy
    rw [beq_bytes] at h
    cases n <;> simpa [Instr.sameBits] using h
theorem sameAll_ok : ∀ {l m : List AV} {us vs : List Value}, sameAll l m = true → RelL σ μ l us → RelL σ μ m vs → ∀ n, us.length = vs.length ∧ ((us.zip vs).all fun (x, y) => Instr.sameBits n x y) = true
  | [], [], us, vs, _, hu, hv, n => by rw [show us = [] from hu, show vs = [] from hv]; exact ⟨rfl, rfl⟩
  | [], _ :: _, _, _, h, _, _, _ => by simp [sameAll] at h
  | _ :: _, [], _, _, h, _, _, _ => by simp [sameAll] at h
  | x :: l, y :: m, _, _, h, ⟨u, us, e1, h1, h2⟩, ⟨v, vs, e2, h3, h4⟩, n => by
    subst e1 e2
    simp only [sameAll, Bool.and_eq_true] at h
    obtain ⟨i1, i2⟩ := sameAll_ok h.2 h2 h4 n
    refine ⟨by simp [i1], ?_⟩
    simp only [List.zip_cons_cons, List.all_cons, Bool.and_eq_true]
    exact ⟨sameOne_ok h.1 h1 h3 n, i2⟩
theorem sameA_ok {x y : AV} {u v : Value} (h : sameA x y = true) (hx : Rel σ μ x u) (hy : Rel σ μ y v) (n : Nat) : Instr.sameBits (n + 1) u v = true := by
  have one : sameOne x y = true → _ := fun h => sameOne_ok h hx hy (n + 1)
  cases x <;> first | (exact one h) | skip
  rename_i l
  cases y <;> first | (exact one h) | skip
  rename_i m
  obtain ⟨xs, rfl, hx⟩ := hx
  obtain ⟨ys, rfl, hy⟩ := hy
  obtain ⟨i1, i2⟩ := sameAll_ok (show sameAll l m = true from h) hx hy n
  rw [Array.length_toList, Array.length_toList] at i1
  simp only [Instr.sameBits, i1, beq_self_eq_true, Bool.true_and]
  exact i2
theorem EntL.get : ∀ {es : List (AV × AV × Nat)} {l : List MapEntry}, EntL σ μ es l → ∀ (i : Nat) (e : AV × AV × Nat), es[i]? = some e → ∃ f, l[i]? = some f ∧ Rel σ μ e.1 f.key ∧ Rel σ μ e.2.1 f.val ∧ f.born = e.2.2
  | [], _, _, i, e, h => by simp at h
  | x :: es, _, ⟨f, fs, rfl, h1, h2, h3, h4⟩, i, e, h => by
    cases i with
    | zero => simp at h; subst h; exact ⟨f, rfl, h1, h2, h3⟩
    | succ i => simp only [List.getElem?_cons_succ] at h ⊢; exact EntL.get h4 i e h
theorem EntL.set : ∀ {es : List (AV × AV × Nat)} {l : List MapEntry}, EntL σ μ es l → ∀ (i : Nat) (e : AV × AV × Nat) (f : MapEntry), Rel σ μ e.1 f.key → Rel σ μ e.2.1 f.val → f.born = e.2.2 → EntL σ μ (es.set i e) (l.set i f)
  | [], l, h, i, e, f, _, _, _ => by rw [show l = [] from h]; rfl
  | x :: es, _, ⟨g, gs, rfl, h1, h2, h3, h4⟩, i, e, f, k1, k2, k3 => by
    cases i with
    | zero => exact ⟨f, gs, rfl, k1, k2, k3, h4⟩
    | succ i => exact ⟨g, gs.set i f, rfl, h1, h2, h3, EntL.set h4 i e f k1 k2 k3⟩
theorem EntL.snoc : ∀ {es : List (AV × AV × Nat)} {l : List MapEntry}, EntL σ μ es l → ∀ (e : AV × AV × Nat) (f : MapEntry), Rel σ μ e.1 f.key → Rel σ μ e.2.1 f.val → f.born = e.2.2 → EntL σ μ (es ++ [e]) (l ++ [f])
  | [], l, h, e, f, k1, k2, k3 => by rw [show l = [] from h]; exact ⟨f, [], rfl, k1, k2, k3, rfl⟩
  | x :: es, _, ⟨g, gs, rfl, h1, h2, h3, h4⟩, e, f, k1, k2, k3 => ⟨g, gs ++ [f], rfl, h1, h2, h3, EntL.snoc h4 e f k1 k2 k3⟩
theorem St.map {x : Nat} {k : List (AV × AV × Nat) → Nat → E} (s : St σ B w0 Φ cE (mapE x k) b μ t c F w) : ∃ es ck p es' F', x < c ∧ t.look x = some (.map es ck) ∧ μ x = some p ∧ w.heap[p.b]? = some (.map es' ck) ∧ EntL σ μ es es'.toList ∧ St σ B w0 Φ cE (k es ck) b μ t c F' w := by
  obtain ⟨hx, o, ho, F', s⟩ := St.get s
  cases o <;> first | (exact (St.fail (n := 201) s).elim) | skip
  obtain ⟨p, hp, es', hh, hE⟩ := s.inv.obj x _ ho trivial
  exact ⟨_, _, p, es', F', hx, ho, hp, hh, hE, s⟩
theorem run_getMap {p : Nat} {es : Array MapEntry} {ck : Nat} (h : w.heap[p]? = some (.map es ck)) : (getObj p).run P w = .ok (.map es ck) w := by simp [getObj, Sem.run, h]
theorem lookup_ok (ok : TabOk P tb) {ty : TypeId} {m x : AV} {u v : Value} {co : Bool} {k : AV → E} {N : Value → World → Prop} (s : St σ B w0 Φ cE (lookupE tb ty m x co k) b μ t c F w) (hm : Rel σ μ m u) (hx : Rel σ μ x v) (hN : Then σ B w0 Φ cE b k μ c N) :
    Runs P (Instr.lookup ty u v co) w N := by
  unfold lookupE at s
  cases e : und tb ty with
  | none => rw [e] at s; exact (St.fail (n := 207) s).elim
  | some d =>
    rw [e] at s
    have hu := und_ok ok e
    cases d <;> first | (exact (St.fail (n := 207) s).elim) | skip
    rename_i kt et
    simp only at s
    obtain ⟨hk, s⟩ := St.when s
    have zero : ∀ {F' : Foot}, St σ B w0 Φ cE (Ev.opt 202 (zeroA tb et) fun z => k (bif co then .tuple [z, .bool false] else z)) b μ t c F' w → ∃ zv, (zeroValue et).run P w = .ok zv w ∧ N (if co then .tuple #[zv, .bool false] else zv) w := fun s => by
      obtain ⟨z, hz, s⟩ := St.opt s
      obtain ⟨i, zv, hi, hzv, hzr⟩ := zeroA_ok ok hz
      refine ⟨zv, run_zero hi hzv w, hN.now s ?_⟩
      cases co with
      | true => exact ⟨_, rfl, .cons (hzr σ μ) (.cons rfl .nil)⟩
      | false => exact hzr σ μ
    obtain ⟨q, rfl⟩ : ∃ q, m = .map q := by
      cases m <;> first | (exact ⟨_, rfl⟩) | (exact (St.fail (n := 205) s).elim)
    cases q with
    | none =>
      cases hm
      obtain ⟨zv, hz, hn⟩ := zero s
      refine .of (u := if co then .tuple #[zv, .bool false] else zv) ?_ hn
      have hc := keyOk_ok ok true 10000 kt x v hk hx w
      have hf : (Instr.findKey kt v []).run P w = .ok none w := (find_ok ok hk hx (es := []) (l := []) (r := none) rfl rfl w).1
      simp [Instr.lookup, run_underlying hu, hc, hf, hz]
    | some q =>
      obtain ⟨p, hp, rfl⟩ := hm
      simp only at s
      obtain ⟨es, ck, p', es', F', _, ho, hp', hh, hE, s⟩ := St.map s
      rw [hp] at hp'; cases hp'
      obtain ⟨r, hr, s⟩ := St.opt s
      obtain ⟨f1, f2⟩ := find_ok ok hk hx hr hE w
      have hc := keyOk_ok ok es'.isEmpty 10000 kt x v hk hx w
      cases r with
      | none =>
        obtain ⟨zv, hz, hn⟩ := zero (F' := F') (by
          have s : St σ B w0 Φ cE (Ev.opt 204 (zeroA tb et) fun z => k (bif co then .tuple [z, .bool false] else z)) b μ t c F' w := s
          obtain ⟨z, hz, s⟩ := St.opt s
          rw [hz]; exact s)
        refine .of (u := if co then .tuple #[zv, .bool false] else zv) ?_ hn
        simp only [hit] at f1
        simp [Instr.lookup, run_underlying hu, run_getMap hh, hc, f1, hz]
      | some e =>
        obtain ⟨b1, b2⟩ := f2 e rfl
        obtain ⟨f, g1, g2, g3, g4⟩ := hE.get _ _ b2
        simp only [hit, Nat.sub_zero, g1, Option.map_some, Option.getD_some] at f1
        refine .of (u := if co then .tuple #[f.val, .bool true] else f.val) ?_ (hN.now s ?_)
        · simp [Instr.lookup, run_underlying hu, run_getMap hh, hc, f1]
        · cases co with
          | true => exact ⟨_, rfl, .cons g3 (.cons rfl .nil)⟩
          | false => exact g3
theorem setObj_world {p : Nat} {es : Array MapEntry} {ck : Nat} {o : Obj} (h : w.heap[p]? = some (.map es ck)) : (setObj p o).run P w = .ok () { w with heap := w.heap.setIfInBounds p o } := by simp [setObj, Sem.run, h]
theorem setObj_facts {w0 w : World} {B p : Nat} {o : Obj} (hb : Below B w0 w) (hB : B ≤ p) : Below B w0 { w with heap := w.heap.setIfInBounds p o } ∧ (∀ i, i < w.heap.size → i ≠ p → (w.heap.setIfInBounds p o)[i]? = w.heap[i]?) := by
  have h2 : ∀ i, i ≠ p → (w.heap.setIfInBounds p o)[i]? = w.heap[i]? := fun i hi => Array.getElem?_setIfInBounds_ne (fun e => hi e.symm)
  exact ⟨⟨hb.os, hb.tape, hb.output, by show _ ≤ (w.heap.setIfInBounds p o).size; rw [Array.size_setIfInBounds]; exact hb.size, fun i hi => (h2 i (by omega)).trans (hb.block i hi)⟩, fun i _ hi => h2 i hi⟩
theorem update_ok (ok : TabOk P tb) {ty : TypeId} {m x y : AV} {u v z : Value} {k : AV → E} {N : Value → World → Prop} (s : St σ B w0 Φ cE (updateE tb ty m x y (k undA)) b μ t c F w) (hm : Rel σ μ m u) (hx : Rel σ μ x v) (hy : Rel σ μ y z) (hN : Then σ B w0 Φ cE b k μ c N) :
    RunsU P (Instr.mapUpdate ty u v z) w N := by
  unfold updateE at s
  cases e : und tb ty with
  | none => rw [e] at s; exact (St.fail (n := 211) s).elim
  | some d =>
    rw [e] at s
    have hu := und_ok ok e
    cases d <;> first | (exact (St.fail (n := 211) s).elim) | skip
    rename_i kt et
    simp only at s
    obtain ⟨hk, s⟩ := St.when s
    obtain ⟨q, rfl⟩ : ∃ q, m = .map q := by
      cases m <;> first | (exact ⟨_, rfl⟩) | (exact (St.fail (n := 209) s).elim)
    cases q with
    | none => exact (St.fail (n := 209) s).elim
    | some q =>
      obtain ⟨p, hp, rfl⟩ := hm
      simp only at s
      obtain ⟨es, ck, p', es', F', _, ho, hp', hh, hE, s⟩ := St.map s
      rw [hp] at hp'; cases hp'
      obtain ⟨r, hr, s⟩ := St.opt s
      obtain ⟨f1, f2⟩ := find_ok ok hk hx hr hE w
      have hc := keyOk_ok ok false 10000 kt x v hk hx w
      have hpb := s.inv.base q p hp
      have I := s.inv
      have I' : ∀ (es2 : List (AV × AV × Nat)) (es2' : Array MapEntry) (ck2 : Nat), EntL σ μ es2 es2'.toList → Inv σ B w0 μ (upd t.look q (.map es2 ck2)) { w with heap := w.heap.setIfInBounds p.b (.map es2' ck2) } := fun es2 es2' ck2 hE2 => by
        obtain ⟨b1, b2⟩ := setObj_facts (o := .map es2' ck2) I.below hpb.1
        refine I.setO (o := .map es ck) ho trivial rfl hp (fun _ e => by cases e) rfl b1 (Array.size_setIfInBounds ..) b2 ⟨es2', ?_, hE2⟩
        show (w.heap.setIfInBounds p.b (.map es2' ck2))[p.b]? = _
        rw [Array.getElem?_setIfInBounds_self, if_pos hpb.2]
      cases r with
      | none =>
        simp only [hit] at f1
        have s : St σ B w0 Φ cE (.set q (.map (es ++ [(x, y, ck)]) (ck + 1)) (k undA)) b μ t c F' w := s
        obtain ⟨hq, F2, s⟩ := St.set s
        refine ⟨_, ?_, hN.now (s μ { w with heap := w.heap.setIfInBounds p.b (.map (es'.push { key := v, val := z, born := ck }) (ck + 1)) } (I' _ _ _ ?_)) rel_undef⟩
        · simp only [Instr.mapUpdate, Sem.run_bind, run_underlying hu, Result.andThen_ok, run_getMap hh, hc, f1, setObj_world hh]
        · rw [Array.toList_push]; exact hE.snoc _ _ hx hy rfl
      | some e =>
        obtain ⟨b1, b2⟩ := f2 e rfl
        obtain ⟨f, g1, g2, g3, g4⟩ := hE.get _ _ b2
        simp only [hit, Nat.sub_zero, g1, Option.map_some, Option.getD_some] at f1
        have s : St σ B w0 Φ cE (bif sameA e.2.1 x then .set q (.map (es.set e.1 (x, y, e.2.2.2)) ck) (k undA) else .fail 212) b μ t c F' w := s
        obtain ⟨hsame, s⟩ := St.when s
        obtain ⟨hq, F2, s⟩ := St.set s
        have g1' : es'[e.1]? = some f := by simpa using g1
        have hb : Instr.sameBits 10000 f.key v = true := sameA_ok hsame g2 hx 9999
        have hstay : (Instr.keyThatStays f.key v).run P w = .ok v w := by simp [Instr.keyThatStays, hb]
        have hmod : (es'.modify e.1 fun e => { e with key := v, val := z }).toList = es'.toList.set e.1 { f with key := v, val := z } := by
          apply List.ext_getElem?
          intro j
          rw [Array.getElem?_toList, Array.getElem?_modify, List.getElem?_set]
          by_cases ej : e.1 = j
          · subst ej
            rw [if_pos rfl, if_pos rfl, if_pos b1, g1']; rfl
          · rw [if_neg ej, if_neg ej, Array.getElem?_toList]
        refine ⟨_, ?_, hN.now (s μ { w with heap := w.heap.setIfInBounds p.b (.map (es'.modify e.1 fun e => { e with key := v, val := z }) ck) } (I' _ _ _ ?_)) rel_undef⟩
        · simp only [Instr.mapUpdate, Sem.run_bind, run_underlying hu, Result.andThen_ok, run_getMap hh, hc, f1, g1', Option.map_some, Option.getD_some, hstay, setObj_world hh]
        · rw [hmod]; exact hE.set _ _ _ hx hy g4
theorem EntL.erase : ∀ {es : List (AV × AV × Nat)} {l : List MapEntry}, EntL σ μ es l → ∀ (i : Nat), EntL σ μ (es.eraseIdx i) (l.eraseIdx i)
  | [], l, h, i => by rw [show l = [] from h]; exact rfl
  | x :: es, _, ⟨g, gs, rfl, h1, h2, h3, h4⟩, i => by
    cases i with
    | zero => exact h4
    | succ i => exact ⟨g, gs.eraseIdx i, rfl, h1, h2, h3, EntL.erase h4 i⟩
theorem delete_ok (ok : TabOk P tb) {ts : Array TypeId} {rt ty : TypeId} (ht : ts[0]? = some ty) {m x : AV} {u v : Value} {k : AV → E} {N : Value → World → Prop} (s : St σ B w0 Φ cE (deleteE tb ty m x (k undA)) b μ t c F w) (hm : Rel σ μ m u) (hx : Rel σ μ x v) (hN : Then σ B w0 Φ cE b k μ c N) :
    Runs P (Builtin.delete_ ts rt #[u, v]) w N := by
  unfold deleteE at s
  cases e : und tb ty with
  | none => rw [e] at s; exact (St.fail (n := 222) s).elim
  | some d =>
    rw [e] at s
    have hu := und_ok ok e
    cases d <;> first | (exact (St.fail (n := 222) s).elim) | skip
    rename_i kt et
    simp only at s
    obtain ⟨hk, s⟩ := St.when s
    obtain ⟨q, rfl⟩ : ∃ q, m = .map q := by
      cases m <;> first | (exact ⟨_, rfl⟩) | (exact (St.fail (n := 220) s).elim)
    cases q with
    | none =>
      cases hm
      have hc := keyOk_ok ok true 10000 kt x v hk hx w
      refine .of (u := .tuple #[]) ?_ (hN.now s ⟨#[], rfl, rfl⟩)
      simp [Builtin.delete_, ht, run_underlying hu, hc]
    | some q =>
      obtain ⟨p, hp, rfl⟩ := hm
      simp only at s
      obtain ⟨es, ck, p', es', F', _, ho, hp', hh, hE, s⟩ := St.map s
      rw [hp] at hp'; cases hp'
      obtain ⟨r, hr, s⟩ := St.opt s
      obtain ⟨f1, f2⟩ := find_ok ok hk hx hr hE w
      have hc := keyOk_ok ok es'.isEmpty 10000 kt x v hk hx w
      have hpb := s.inv.base q p hp
      have I := s.inv
      have I' : ∀ (es2 : List (AV × AV × Nat)) (es2' : Array MapEntry) (ck2 : Nat), EntL σ μ es2 es2'.toList → Inv σ B w0 μ (upd t.look q (.map es2 ck2)) { w with heap := w.heap.setIfInBounds p.b (.map es2' ck2) } := fun es2 es2' ck2 hE2 => by
        obtain ⟨b1, b2⟩ := setObj_facts (o := .map es2' ck2) I.below hpb.1
        refine I.setO (o := .map es ck) ho trivial rfl hp (fun _ e => by cases e) rfl b1 (Array.size_setIfInBounds ..) b2 ⟨es2', ?_, hE2⟩
        show (w.heap.setIfInBounds p.b (.map es2' ck2))[p.b]? = _
        rw [Array.getElem?_setIfInBounds_self, if_pos hpb.2]
      cases r with
      | none =>
        simp only [hit] at f1
        have s : St σ B w0 Φ cE (.set q (.map es ck) (k undA)) b μ t c F' w := s
        obtain ⟨hq, F2, s⟩ := St.set s
        refine .of (u := .tuple #[]) ?_ (hN.now (s μ { w with heap := w.heap.setIfInBounds p.b (.map es' ck) } (I' _ _ _ hE)) ⟨#[], rfl, rfl⟩)
        simp [Builtin.delete_, ht, run_underlying hu, run_getMap hh, hc, f1, setObj_world hh]
      | some e =>
        obtain ⟨b1, b2⟩ := f2 e rfl
        obtain ⟨f, g1, g2, g3, g4⟩ := hE.get _ _ b2
        simp only [hit, Nat.sub_zero, g1, Option.map_some, Option.getD_some] at f1
        have s : St σ B w0 Φ cE (.set q (.map (es.eraseIdx e.1) ck) (k undA)) b μ t c F' w := s
        obtain ⟨hq, F2, s⟩ := St.set s
        have hlist : (es'.eraseIdxIfInBounds e.1).toList = es'.toList.eraseIdx e.1 := by
          unfold Array.eraseIdxIfInBounds
          have hlt : e.1 < es'.size := by simpa using b1
          rw [dif_pos hlt, Array.toList_eraseIdx]
        refine .of (u := .tuple #[]) ?_ (hN.now (s μ { w with heap := w.heap.setIfInBounds p.b (.map (es'.eraseIdxIfInBounds e.1) ck) } (I' _ _ _ ?_)) ⟨#[], rfl, rfl⟩)
        · simp [Builtin.delete_, ht, run_underlying hu, run_getMap hh, hc, f1, setObj_world hh]
        · rw [hlist]; exact hE.erase e.1
end
end Ev
end

section
namespace Ev
open Go Go.RowKit
set_option linter.unusedVariables false
set_option linter.unusedSimpArgs false
section
variable {P : Program} {tb : Tab} {σ : Nat → Value} {B : Nat} {w0 : World} {Φ : Res → Prop} {cE : Nat} {b : Nat} {μ : Mu} {t : T AObj} {c : Nat} {F : Foot} {w : World} {a : AAct} {ca : Act}
/-- A function is called: it is carried out at once, or entered. -/
def Enters (P : Program) (f : FuncId) (us : List Value) (w : World) (N : Value → World → Prop) : Prop :=
  (∃ v w1, (callFunc f us.toArray).run P w = .ok (.value v) w1 ∧ N v w1) ∨ ((callFunc f us.toArray).run P w = .ok (.enter f us.toArray) w ∧ Calls P f us.toArray w fun e w' => ∃ v, e = .returned v ∧ N v w')
/-- Callees are told rightly. -/
def CallOk (P : Program) (σ : Nat → Value) (B : Nat) (w0 : World) (Φ : Res → Prop) (cE : Nat) (call : FuncId → List AV → (AV → E) → E) : Prop :=
  ∀ (f : FuncId) (args : List AV) (us : List Value) (k : AV → E) (b : Nat) (μ : Mu) (t : T AObj) (c : Nat) (F : Foot) (w : World) (N : Value → World → Prop), St σ B w0 Φ cE (call f args k) b μ t c F w → RelL σ μ args us → Then σ B w0 Φ cE b k μ c N → Enters P f us w N
theorem upon_enters {o : Oper} {next : Act → World → Prop} {Q : Exit → Act → World → Prop} {f : FuncId} {us : List Value} (he : (execOp ca.eval o).run P w = (callFunc f us.toArray).run P w) (h : Enters P f us w fun u w1 => next (ca.put o.dst u) w1) : o.wp P ca w next Q := by
  unfold Oper.wp
  rw [he]
  rcases h with ⟨v, w1, h1, h2⟩ | ⟨h1, h2⟩
  · rw [h1]; exact h2
  · rw [h1]
    exact h2.mono fun e w' ⟨v, hv, hn⟩ => by subst hv; exact hn
theorem minA_ok {less : Bool} : ∀ (l : List AV) (us : List Value) (x r : AV) (v : Value), minA less x l = some r → RelL σ μ l us → Rel σ μ x v → ∃ q, (us.foldlM (if less then Builtin.min2 else Builtin.max2) v : Sem Value).run P w = .ok q w ∧ Rel σ μ r q
  | [], us, x, r, v, h, hu, hx => by
    rw [show us = [] from hu]
    cases x <;> simp only [minA] at h <;> first | (cases h; done) | skip
    simp only [Option.some.injEq] at h; subst h
    exact ⟨v, by simp, hx⟩
  | y :: l, us, x, r, v, h, ⟨u, us', e, h1, h2⟩, hx => by
    subst e
    cases x <;> first | (simp [minA] at h; done) | skip
    cases y <;> first | (simp [minA] at h; done) | skip
    simp only [minA] at h
    cases hx; cases h1
    obtain ⟨q, q1, q2⟩ := minA_ok l us' _ r _ h h2 rfl
    refine ⟨q, ?_, q2⟩
    cases less with
    | true => simpa [Builtin.min2] using q1
    | false => simpa [Builtin.max2] using q1
theorem makeMap_ok (ok : TabOk P tb) (hΦ : ∀ q, Φ q → q.2.2.1 ≤ cE) {ty : TypeId} {r : Option AV} {r' : Option Value} {k : AV → E} {N : Value → World → Prop} (s : St σ B w0 Φ cE (makeMapE tb ty r k) b μ t c F w) (hr : OR σ μ r r') (hN : Then σ B w0 Φ cE b k μ c N) : Runs P (Instr.makeMap ty r') w N := by
  have key : ∀ {F' : Foot}, St σ B w0 Φ cE (.new (.map [] 0) fun c => k (.map (some c))) b μ t c F' w → N (.map (some w.heap.size)) (w.alloc (.map #[] 0)) := fun s => by
    obtain ⟨hlt, hn, s'⟩ := St.new hΦ s
    have hμ := s.inv.unmapped hn
    have I := s.inv.alloc (o := .map [] 0) hn (fun _ => trivial) rfl (fun _ e => by cases e) (ob := .map #[] 0) (r := 0) ⟨#[], by show (w.heap.push _)[w.heap.size]? = _; rw [Array.getElem?_push_size], rfl⟩
    exact hN _ _ _ _ _ _ _ (s' _ _ I) ⟨by omega, upd_ext hμ, fun x hx => upd_ne _ _ (fun e => hx (by omega))⟩ ⟨_, upd_same .., rfl⟩
  rcases hr with ⟨rfl, rfl⟩ | ⟨v, u, rfl, rfl, hv⟩
  · exact .of (by simp [Instr.makeMap, alloc_world]) (key s)
  · cases v <;> first | (exact (St.fail (n := 248) s).elim) | skip
    cases hv
    unfold makeMapE at s
    simp only at s
    cases e : und tb ty with
    | none => rw [e] at s; exact (St.fail (n := 247) s).elim
    | some d =>
      rw [e] at s
      cases d <;> first | (exact (St.fail (n := 247) s).elim) | skip
      exact .of (by simp [Instr.makeMap, run_underlying (und_ok ok e), asInt, asIntOf, alloc_world]) (key s)
theorem methA_ok (ok : TabOk P tb) {ty : TypeId} {name : String} {f : FuncId} (h : methA tb ty name = some f) (v : Value) (n : Nat) (w : World) : (method (n + 1) ty v name).run P w = .ok (f, v) w := by
  unfold methA at h
  cases e1 : tb.ty.look ty with
  | none => rw [e1] at h; simp at h
  | some i =>
    cases e2 : und tb ty with
    | none => rw [e1, e2] at h; simp at h
    | some d =>
      rw [e1, e2] at h
      simp only at h
      have hu := und_ok ok e2
      cases e3 : i.methods.find? (fun m => m.name == name) with
      | none => rw [e3] at h; cases h
      | some m =>
        rw [e3] at h
        simp only at h
        have hi := ok.ty ty i e1
        obtain ⟨nm, sig, path, fn⟩ := m
        simp only at h
        cases ep : path.toList with
        | cons _ _ => rw [ep] at h; simp at h
        | nil =>
          rw [ep] at h
          have hpe : path = #[] := by apply Array.ext'; rw [ep]
          subst hpe
          cases fn with
          | none => simp at h
          | some fp =>
            obtain ⟨g, pr⟩ := fp
            cases pr with
            | true =>
              cases d <;> simp at h
              subst h
              simp [method, typeInfo, hi, e3, follow, receiverAt, run_underlying hu, Place.get]
            | false =>
              cases d <;> simp at h <;> subst h <;> simp [method, typeInfo, hi, e3, follow, receiverAt, run_underlying hu, Place.get]
theorem slice_no_str {q n sz cap} {u : Value} {A : Prop} (h : Rel σ μ (.slice q n sz cap) u) : A → ∀ ba, u ≠ .string ba := fun _ ba e => by
  subst e
  cases q with
  | none => obtain ⟨_, e⟩ := h; cases e
  | some q => obtain ⟨p, cp, ad, _, e, _⟩ := h; cases e
theorem builtin_ok (ok : TabOk P tb) (hσ : Syms σ) (hΦ : ∀ q, Φ q → q.2.2.1 ≤ cE) {bi : Builtin} {ts : Array TypeId} {rt : TypeId} {cs : Array Bool} {args : List AV} {us : List Value} {k : AV → E} {N : Value → World → Prop} (s : St σ B w0 Φ cE (builtinE tb bi ts.toList args k) b μ t c F w) (hu : RelL σ μ args us) (hN : Then σ B w0 Φ cE b k μ c N) :
    ∃ S : Sem Value, (∀ w, (builtin bi ts rt cs us.toArray).run P w = (do pure (Next.value (← S)) : Sem Next).run P w) ∧ Runs P S w N := by
  unfold builtinE at s
  split at s
  · -- len
    rename_i t0 tl x hts
    obtain ⟨u, rfl, hr⟩ := hu.one_inv
    have ht : ts[0]? = some t0 := by rw [← Array.getElem?_toList, hts]; rfl
    exact ⟨Builtin.len_ ts rt #[u], fun _ => rfl, len_ok ok ht s hr hN⟩
  · -- append
    rename_i t0 t1 s0 x hts
    obtain ⟨u0, us1, rfl, h1, h2⟩ := hu
    obtain ⟨u1, rfl, hx2⟩ := RelL.one_inv h2
    clear h2
    have hts' : ts = #[t0, t1] := by apply Array.ext'; rw [hts]
    subst hts'
    refine ⟨Builtin.append_ #[t0, t1] rt #[u0, u1], fun _ => rfl, ?_⟩
    cases e : und tb t1 with
    | none => rw [e] at s; exact (St.fail (n := 171) s).elim
    | some d =>
      rw [e] at s
      have hd := und_ok ok e
      by_cases hkd : d = .string ∨ ∃ el, d = .slice el
      case neg => exact (St.fail (n := 171) (by cases d <;> first | (exact absurd (.inl rfl) hkd) | (exact absurd (.inr ⟨_, rfl⟩) hkd) | (cases x <;> exact s))).elim
      rcases hkd with rfl | ⟨el, rfl⟩
      · cases x <;> first | (exact (St.fail (n := 171) s).elim) | skip
        obtain ⟨ba, rfl, e1⟩ := hx2
        exact append_ok ok hσ hΦ s h1 ⟨ba, rfl, e1⟩ (.inr hd) (fun ⟨e', h⟩ => by rw [hd] at h; cases h) (fun _ => ⟨ba, rfl⟩) hN
      · cases x <;> first | (exact (St.fail (n := 171) s).elim) | skip
        exact append_ok ok hσ hΦ s h1 hx2 (.inl ⟨el, hd⟩) (slice_no_str hx2) (fun h => by rw [hd] at h; cases h) hN
  · -- min
    rename_i x l
    obtain ⟨u0, us1, rfl, h1, h2⟩ := hu
    obtain ⟨r, hr, s⟩ := St.opt s
    obtain ⟨q, q1, q2⟩ := minA_ok (P := P) (w := w) l us1 x r u0 hr h2 h1
    exact ⟨Builtin.min_ ts rt (u0 :: us1).toArray, fun _ => rfl, .of (by simpa [Builtin.min_] using q1) (hN.now s q2)⟩
  · -- max
    rename_i x l
    obtain ⟨u0, us1, rfl, h1, h2⟩ := hu
    obtain ⟨r, hr, s⟩ := St.opt s
    obtain ⟨q, q1, q2⟩ := minA_ok (P := P) (w := w) l us1 x r u0 hr h2 h1
    exact ⟨Builtin.max_ ts rt (u0 :: us1).toArray, fun _ => rfl, .of (by simpa [Builtin.max_] using q1) (hN.now s q2)⟩
  · -- delete
    rename_i t0 tl m x hts
    obtain ⟨u0, us1, rfl, h1, h2⟩ := hu
    obtain ⟨u1, rfl, hx2⟩ := RelL.one_inv h2
    have ht : ts[0]? = some t0 := by rw [← Array.getElem?_toList, hts]; rfl
    exact ⟨Builtin.delete_ ts rt #[u0, u1], fun _ => rfl, delete_ok ok ht s h1 hx2 hN⟩
  · exact (St.fail (n := 252) s).elim
end
end Ev
end

section
namespace Ev
open Go Go.RowKit
set_option linter.unusedVariables false
set_option linter.unusedSimpArgs false
section
variable {P : Program} {tb : Tab} {σ : Nat → Value} {B : Nat} {w0 : World} {Φ : Res → Prop} {cE : Nat} {b : Nat} {μ : Mu} {t : T AObj} {c : Nat} {F : Foot} {w : World} {a : AAct} {ca : Act}
theorem appl_rel {l args m : List AV} {f' c' us : List Value} (h1 : RelL σ μ l f') (h2 : RelL σ μ args us) (h3 : RelL σ μ m c') : RelL σ μ (appl l args m) (f' ++ (us ++ c')) := h1.append (h2.append h3)
theorem evL_arr (ra : ActRel σ μ a ca) {xs : Array Operand} {l : List AV} (h : evL a xs.toList = some l) : RelL σ μ l (xs.map ca.eval).toList := by rw [Array.toList_map]; exact evL_ok ra h
set_option maxHeartbeats 1000000 in
theorem op_ok (ok : TabOk P tb) (hσ : Syms σ) (hΦ : ∀ q, Φ q → q.2.2.1 ≤ cE) {call : FuncId → List AV → (AV → E) → E} (hcall : CallOk P σ B w0 Φ cE call) {o : Oper} {k : AV → E} {next : Act → World → Prop} {Q : Exit → Act → World → Prop}
    (s : St σ B w0 Φ cE (opE tb call a o k) b μ t c F w) (ra : ActRel σ μ a ca) (hN : Then σ B w0 Φ cE b k μ c fun u w1 => next (ca.put o.dst u) w1) : o.wp P ca w next Q := by
  obtain ⟨dst, op, type, pos, after, guard⟩ := o
  cases op with
  | move x =>
    simp only [opE] at s
    obtain ⟨v, hv, s⟩ := St.opt s
    exact wp_val (by simp [execOp]) (hN.now s (evA_ok ra hv))
  | assign x =>
    simp only [opE] at s
    obtain ⟨v, hv, s⟩ := St.opt s
    exact wp_val (by simp [execOp]) (hN.now s (evA_ok ra hv))
  | pick q x y =>
    simp only [opE] at s
    cases hq : evA a q with
    | none => rw [hq] at s; exact (St.fail (n := 303) s).elim
    | some v =>
      rw [hq] at s
      cases v <;> first | (exact (St.fail (n := 303) s).elim) | skip
      have hr := evA_ok ra hq
      rename_i bq
      have hr : ca.eval q = .bool bq := hr
      cases bq with
      | true => obtain ⟨v, hv, s⟩ := St.opt s; exact wp_val (by simp [execOp, hr, asBool]) (hN.now s (evA_ok ra hv))
      | false => obtain ⟨v, hv, s⟩ := St.opt s; exact wp_val (by simp [execOp, hr, asBool]) (hN.now s (evA_ok ra hv))
  | alloc e =>
    simp only [opE] at s
    refine wp_runs (S := Instr.alloc e true (.tuple #[])) (by rfl) ?_
    exact allocOp_ok ok hσ hΦ s hN
  | box e x =>
    simp only [opE] at s
    obtain ⟨v, hv, s⟩ := St.opt s
    refine wp_runs (S := Instr.box e (ca.eval x)) (by rfl) ?_
    exact boxOp_ok hσ hΦ (evA_ok ra hv) s hN
  | build ty ps =>
    simp only [opE] at s
    obtain ⟨l, hl, s⟩ := St.opt s
    obtain ⟨v, hv, s⟩ := St.opt s
    obtain ⟨r, h1, h2⟩ := buildA_ok ok hσ hv (parts := ps.map fun (i, x) => (i, ca.eval x)) (by rw [Array.toList_map]; exact evParts_ok ra hl) w
    refine wp_runs (S := Instr.build ty (ps.map fun (i, x) => (i, ca.eval x))) (by rfl) ?_
    exact .of h1 (hN.now s h2)
  | buildSlice ty n ps =>
    simp only [opE] at s
    obtain ⟨l, hl, s⟩ := St.opt s
    refine wp_runs (S := Instr.buildSlice ty n (ps.map fun (i, x) => (i, ca.eval x))) (by rfl) ?_
    have hp : PartsR σ μ l (ps.map fun (i, x) => (i, ca.eval x)).toList := by rw [Array.toList_map]; exact evParts_ok ra hl
    exact buildSlice_ok ok hσ hΦ s hp hN
  | load ty x =>
    simp only [opE] at s
    obtain ⟨v, hv, s⟩ := St.opt s
    refine wp_runs (S := Instr.loadAt ty (ca.eval x)) (by rfl) ?_
    exact load_ok ok s (evA_ok ra hv) hN
  | store ty x y =>
    simp only [opE] at s
    obtain ⟨v, hv, s⟩ := St.opt s
    obtain ⟨u, hu, s⟩ := St.opt s
    refine wp_runsU (S := Instr.storeAt ty (ca.eval x) (ca.eval y)) (by rfl) ?_
    exact store_ok ok hσ s (evA_ok ra hv) (evA_ok ra hu) hN
  | nilCheck x =>
    simp only [opE] at s
    cases hq : evA a x with
    | none => rw [hq] at s; exact (St.fail (n := 313) s).elim
    | some v =>
      rw [hq] at s
      have hr := evA_ok ra hq
      cases v <;> first | (exact (St.fail (n := 313) s).elim) | skip
      · rename_i q
        cases q with
        | none => exact (St.fail (n := 313) s).elim
        | some q =>
          obtain ⟨p, hp, e⟩ := id hr
          exact wp_val (v := ca.eval x) (by simp [execOp, e]) (hN.now s hr)
      · rename_i fn f m
        cases fn <;> first | (exact (St.fail (n := 313) s).elim) | skip
        obtain ⟨f', c', e, _⟩ := id hr
        exact wp_val (v := ca.eval x) (by simp [execOp, e]) (hN.now s hr)
      · obtain ⟨v', e, _⟩ := id hr
        exact wp_val (v := ca.eval x) (by simp [execOp, e]) (hN.now s hr)
  | binOp op ty x y yt =>
    simp only [opE] at s
    obtain ⟨v, hv, s⟩ := St.opt s
    obtain ⟨u, hu, s⟩ := St.opt s
    cases hb : binA tb op ty v u with
    | some r =>
      rw [hb] at s
      obtain ⟨r', h1, h2⟩ := binA_ok ok (xo := x) (yo := y) hb (evA_ok ra hv) (evA_ok ra hu) w
      refine wp_runs (S := (do eqGuard op ty x y (ca.eval x) (ca.eval y); Go.binOp op ty (ca.eval x) (ca.eval y))) (by rfl) ?_
      exact .of h1 (hN.now s h2)
    | none =>
      rw [hb] at s
      obtain ⟨hc, s⟩ := St.when s
      obtain ⟨r, hr, s⟩ := St.opt s
      obtain ⟨r', h1, h2⟩ := nilA_ok ok (xo := x) (yo := y) hc hr (evA_ok ra hv) (evA_ok ra hu) w
      refine wp_runs (S := (do eqGuard op ty x y (ca.eval x) (ca.eval y); Go.binOp op ty (ca.eval x) (ca.eval y))) (by rfl) ?_
      exact .of h1 (hN.now s h2)
  | unOp op ty x =>
    simp only [opE] at s
    obtain ⟨v, hv, s⟩ := St.opt s
    obtain ⟨r, hr, s⟩ := St.opt s
    obtain ⟨r', h1, h2⟩ := unA_ok hr (evA_ok ra hv) w
    refine wp_runs (S := Op.unary op (ca.eval x)) (by rfl) ?_
    exact .of h1 (hN.now s h2)
  | convert sr ds x =>
    simp only [opE] at s
    obtain ⟨v, hv, s⟩ := St.opt s
    refine wp_runs (S := Go.convert sr ds (ca.eval x)) (by rfl) ?_
    exact conv_ok ok hΦ s (evA_ok ra hv) hN
  | makeInterface ty x =>
    simp only [opE] at s
    obtain ⟨v, hv, s⟩ := St.opt s
    cases e : und tb ty with
    | none => rw [e] at s; exact (St.fail (n := 321) s).elim
    | some d =>
      rw [e] at s
      have hu := und_ok ok e
      refine wp_runs (S := Instr.makeInterface ty (ca.eval x)) rfl (.of (u := .iface ty (ca.eval x)) (w1 := w) ?_ ?_)
      · cases d <;> first | (simp [Instr.makeInterface, run_underlying hu]; done) | (exact (St.fail (n := 320) s).elim)
      · exact hN.now (v := .iface ty v) (by cases d <;> first | exact s | (exact (St.fail (n := 320) s).elim)) ⟨_, rfl, evA_ok ra hv⟩
  | makeFunc fn f cp =>
    simp only [opE] at s
    cases fn <;> first | (exact (St.fail (n := 324) s).elim) | skip
    obtain ⟨l, hl, s⟩ := St.opt s
    obtain ⟨m, hm, s⟩ := St.opt s
    refine wp_runs (S := Instr.makeFunc _ (f.map ca.eval) (cp.map ca.eval)) (by rfl) ?_
    exact .of rfl (hN.now s ⟨_, _, rfl, evL_arr ra hl, evL_arr ra hm⟩)
  | makeMap ty r =>
    simp only [opE] at s
    obtain ⟨v, hv, s⟩ := St.opt s
    exact wp_runs (S := Instr.makeMap ty (r.map ca.eval)) rfl (makeMap_ok ok hΦ s (by
      rcases evO_ok ra hv with ⟨rfl, rfl⟩ | ⟨y, u, rfl, rfl, hr⟩
      · exact .inl ⟨rfl, rfl⟩
      · exact .inr ⟨_, _, rfl, rfl, hr⟩) hN)
  | makeSlice ty l cp =>
    simp only [opE] at s
    obtain ⟨v, hv, s⟩ := St.opt s
    obtain ⟨u, hu, s⟩ := St.opt s
    refine wp_runs (S := Instr.makeSlice ty (ca.eval l) (ca.eval cp)) (by rfl) ?_
    exact makeSlice_ok ok hσ hΦ s (evA_ok ra hv) (evA_ok ra hu) hN
  | slice ty x lo hi mx =>
    simp only [opE] at s
    have orr : ∀ {x : Option Operand} {v : Option AV}, evO a x = some v → OR σ μ v (x.map ca.eval) := fun hv => by
      rcases evO_ok ra hv with ⟨rfl, rfl⟩ | ⟨y, u, rfl, rfl, hr⟩
      · exact .inl ⟨rfl, rfl⟩
      · exact .inr ⟨_, _, rfl, rfl, hr⟩
    obtain ⟨v, hv, s⟩ := St.opt s
    obtain ⟨l, hl, s⟩ := St.opt s
    obtain ⟨h, hh, s⟩ := St.opt s
    obtain ⟨m, hm, s⟩ := St.opt s
    refine wp_runs (S := Instr.sliceAt ty (ca.eval x) (lo.map ca.eval) (hi.map ca.eval) (mx.map ca.eval)) (by rfl) ?_
    exact slice_ok ok hΦ s (evA_ok ra hv) (orr hl) (orr hh) (orr hm) hN
  | fieldAddr ty x i =>
    simp only [opE] at s
    obtain ⟨v, hv, s⟩ := St.opt s
    obtain ⟨r, hr, s⟩ := St.opt s
    obtain ⟨r', h1, h2⟩ := fieldAddrA_ok ok hr (evA_ok ra hv) w
    refine wp_runs (S := Instr.fieldAt ty (ca.eval x) i) (by rfl) ?_
    exact .of h1 (hN.now s h2)
  | field ty x i =>
    simp only [opE] at s
    obtain ⟨v, hv, s⟩ := St.opt s
    obtain ⟨r, hr, s⟩ := St.opt s
    obtain ⟨r', h1, h2⟩ := fieldA_ok ok hr (evA_ok ra hv) w
    refine wp_runs (S := Instr.field ty (ca.eval x) i) (by rfl) ?_
    exact .of h1 (hN.now s h2)
  | indexAddr ty x i =>
    simp only [opE] at s
    obtain ⟨v, hv, s⟩ := St.opt s
    obtain ⟨u, hu, s⟩ := St.opt s
    refine wp_runs (S := Instr.indexAt ty (ca.eval x) (ca.eval i)) (by rfl) ?_
    exact indexAddr_ok ok s (evA_ok ra hv) (evA_ok ra hu) hN
  | index ty x i =>
    simp only [opE] at s
    obtain ⟨v, hv, s⟩ := St.opt s
    obtain ⟨u, hu, s⟩ := St.opt s
    obtain ⟨r, hr, s⟩ := St.opt s
    obtain ⟨r', h1, h2⟩ := indexA_ok ok hr (evA_ok ra hv) (evA_ok ra hu) w
    refine wp_runs (S := Instr.index ty (ca.eval x) (ca.eval i)) (by rfl) ?_
    exact .of h1 (hN.now s h2)
  | lookup ty x i co =>
    simp only [opE] at s
    obtain ⟨v, hv, s⟩ := St.opt s
    obtain ⟨u, hu, s⟩ := St.opt s
    refine wp_runs (S := Instr.lookup ty (ca.eval x) (ca.eval i) co) (by rfl) ?_
    exact lookup_ok ok s (evA_ok ra hv) (evA_ok ra hu) hN
  | mapUpdate ty m x y =>
    simp only [opE] at s
    obtain ⟨v, hv, s⟩ := St.opt s
    obtain ⟨u, hu, s⟩ := St.opt s
    obtain ⟨z, hz, s⟩ := St.opt s
    refine wp_runsU (S := Instr.mapUpdate ty (ca.eval m) (ca.eval x) (ca.eval y)) (by rfl) ?_
    exact update_ok ok s (evA_ok ra hv) (evA_ok ra hu) (evA_ok ra hz) hN
  | typeAssert x xt ty co =>
    simp only [opE] at s
    obtain ⟨v, hv, s⟩ := St.opt s
    obtain ⟨r, hr, s⟩ := St.opt s
    obtain ⟨r', h1, h2⟩ := assertA_ok ok (xt := xt) hr (evA_ok ra hv) w
    refine wp_runs (S := Instr.typeAssert (ca.eval x) xt ty co) (by rfl) ?_
    exact .of h1 (hN.now s h2)
  | extract x i =>
    simp only [opE] at s
    cases hq : evA a x with
    | none => rw [hq] at s; exact (St.fail (n := 343) s).elim
    | some v =>
      rw [hq] at s
      have hr := evA_ok ra hq
      cases v <;> first | (exact (St.fail (n := 343) s).elim) | skip
      obtain ⟨v, hv, s⟩ := St.opt s
      obtain ⟨xs, e, hl⟩ := hr
      obtain ⟨u, hu, hru⟩ := hl.get _ _ hv
      have hu' : xs[i]? = some u := by simpa using hu
      refine wp_runs (S := Instr.extract (ca.eval x) i) (by rfl) ?_
      exact .of (u := u) (by simp [Instr.extract, e, hu']) (hN.now s hru)
  | call cl =>
    simp only [opE] at s
    obtain ⟨callee, args, ats⟩ := cl
    obtain ⟨l, hl, s⟩ := St.opt s
    have hargs := evL_arr ra hl
    cases callee with
    | builtin bi =>
      obtain ⟨S, h1, h2⟩ := builtin_ok (rt := type) (cs := args.map fun | .const _ => true | _ => false) ok hσ hΦ s hargs hN
      obtain ⟨u, w1, h3, h4⟩ := h2
      refine wp_val (v := u) (w1 := w1) ?_ h4
      have h5 := h1 w
      have h6 : (args.map ca.eval).toList.toArray = args.map ca.eval := by apply Array.ext'; rfl
      have h7 : (do pure (Next.value (← S)) : Sem Next).run P w = .ok (.value u) w1 := by simp [h3]
      have h8 : (execOp ca.eval ⟨dst, .call ⟨.builtin bi, args, ats⟩, type, pos, after, guard⟩).run P w = (builtin bi ats type (args.map fun | .const _ => true | _ => false) (args.map ca.eval)).run P w := rfl
      rw [h8, ← h6]
      exact h5.trans h7
    | value f =>
      simp only at s
      cases hq : evA a f with
      | none => rw [hq] at s; exact (St.fail (n := 345) s).elim
      | some v =>
        rw [hq] at s
        have hr := evA_ok ra hq
        cases v <;> first | (exact (St.fail (n := 345) s).elim) | skip
        rename_i fn f1 m1
        cases fn <;> first | (exact (St.fail (n := 345) s).elim) | skip
        rename_i g
        obtain ⟨f', c', e, r1, r2⟩ := hr
        refine upon_enters (us := f'.toList ++ ((args.map ca.eval).toList ++ c'.toList)) ?_ (hcall g _ _ k b μ t c F w _ s (appl_rel r1 hargs r2) hN)
        simp only [execOp, resolve, e, Deferred.ofValue, Sem.run_bind, Sem.run_pure, Result.andThen_ok, invoke]
        congr 2
        apply Array.ext'
        simp
    | invoke r name =>
      simp only at s
      cases hq : evA a r with
      | none => rw [hq] at s; exact (St.fail (n := 348) s).elim
      | some v =>
        rw [hq] at s
        have hr := evA_ok ra hq
        cases v <;> first | (exact (St.fail (n := 348) s).elim) | skip
        obtain ⟨f, hf, s⟩ := St.opt s
        obtain ⟨v', e, hv'⟩ := hr
        refine upon_enters (us := v' :: (args.map ca.eval).toList) ?_ (hcall f _ _ k b μ t c F w _ s (.cons hv' hargs) hN)
        have hm := methA_ok ok hf v' (P.types.size + 99) w
        rename_i it av _
        generalize hX : args.map ca.eval = X
        have h0 : (#[Value.iface it v'] ++ X).extract 1 (#[Value.iface it v'] ++ X).size = X := by
          apply Array.ext'
          rw [Array.toList_extract, List.extract_eq_take_drop]
          simp only [Array.toList_append, List.cons_append, List.nil_append, List.drop_succ_cons, List.drop_zero, Array.size_append, List.size_toArray, List.length_cons, List.length_nil]
          exact List.take_of_length_le (by rw [Array.length_toList]; omega)
        have h1 : (#[Value.iface it v'] ++ X)[0]? = some (Value.iface it v') := by rw [Array.getElem?_append_left (by simp)]; rfl
        have h2 : (execOp ca.eval ⟨dst, .call ⟨.invoke r name, args, ats⟩, type, pos, after, guard⟩).run P w = (invoke (.fn (.method name) #[]) (#[ca.eval r] ++ args.map ca.eval)).run P w := rfl
        rw [h2, hX, e]
        simp only [invoke, h0, h1, callMethod, Sem.run_bind, run_program, Result.andThen_ok]
        rw [show P.types.size + Made.depth = P.types.size + 99 + 1 from rfl, hm]
        simp only [Result.andThen_ok]
        congr 2
        apply Array.ext'
        simp
  | _ => exact (St.fail (n := 347) s).elim
end
end Ev
end

section
namespace Ev
open Go Go.RowKit
set_option linter.unusedVariables false
set_option linter.unusedSimpArgs false
section
variable {P : Program} {tb : Tab} {σ : Nat → Value} {B : Nat} {w0 : World} {Φ : Res → Prop} {cE : Nat} {b : Nat}
theorem opt_congr {α : Type} {n : Nat} {o o' : Option α} {k : α → E} (h : o = o') : opt n o k = opt n o' k := by rw [h]
/-- The slots that an operation reads. -/
def reads (o : Oper) : List Tmp := o.op.operands.toList.filterMap fun | .tmp t => some t | _ => none
theorem evA_congr {a a' : AAct} {x : Operand} (h : ∀ t, x = .tmp t → a.at t = a'.at t) : evA a x = evA a' x := by
  cases x with
  | tmp t => simp only [evA, h t rfl]
  | _ => rfl
theorem evL_congr {a a' : AAct} : ∀ {xs : List Operand}, (∀ x ∈ xs, evA a x = evA a' x) → evL a xs = evL a' xs
  | [], _ => rfl
  | x :: xs, h => by simp only [evL, h x (List.mem_cons_self ..), evL_congr fun y hy => h y (List.mem_cons_of_mem _ hy)]
theorem evParts_congr {a a' : AAct} : ∀ {xs : List (Nat × Operand)}, (∀ x ∈ xs, evA a x.2 = evA a' x.2) → evParts a xs = evParts a' xs
  | [], _ => rfl
  | x :: xs, h => by simp only [evParts, h x (List.mem_cons_self ..), evParts_congr fun y hy => h y (List.mem_cons_of_mem _ hy)]
theorem evO_congr {a a' : AAct} {x : Option Operand} (h : ∀ y, x = some y → evA a y = evA a' y) : evO a x = evO a' x := by
  cases x with
  | none => rfl
  | some y => simp only [evO, h y rfl]
theorem opE_congr {call : FuncId → List AV → (AV → E) → E} {a a' : AAct} {o : Oper} {k : AV → E} (h : ∀ t ∈ reads o, a.at t = a'.at t) : opE tb call a o k = opE tb call a' o k := by
  have hx : ∀ x ∈ o.op.operands.toList, evA a x = evA a' x := fun x hx => evA_congr fun t e => h t (by subst e; unfold reads; exact List.mem_filterMap.2 ⟨_, hx, rfl⟩)
  obtain ⟨dst, op, type, pos, after, guard⟩ := o
  cases op <;> simp only [Op.operands, Call.operands] at hx <;> simp only [opE] <;> first
    | rfl
    | (rw [hx _ (by simp)]; done)
    | (rw [hx _ (List.mem_cons_self ..), hx _ (List.mem_cons_of_mem _ (List.mem_cons_self ..))]; done)
    | skip
  case pick q x y => rw [hx q (by simp), hx x (by simp), hx y (by simp)]
  case build ty ps => rw [evParts_congr fun p hp => hx p.2 (by simp only [List.mem_map]; exact ⟨p, hp, rfl⟩)]
  case buildSlice ty n ps => rw [evParts_congr fun p hp => hx p.2 (by simp only [List.mem_map]; exact ⟨p, hp, rfl⟩)]
  case makeFunc fn f m => rw [evL_congr fun x h => hx x (by simp only [Array.toList_append, List.mem_append]; exact .inl h), evL_congr (a := a) (xs := m.toList) fun x h => hx x (by simp only [Array.toList_append, List.mem_append]; exact .inr h)]
  case makeMap ty r => rw [evO_congr fun y e => hx y (by subst e; simp)]
  case slice ty x lo hi mx => rw [hx x (by simp), evO_congr (x := lo) fun y e => hx y (by subst e; simp), evO_congr (x := hi) fun y e => hx y (by subst e; simp), evO_congr (x := mx) fun y e => hx y (by subst e; simp)]
  case mapUpdate ty m x y => rw [hx m (by simp), hx x (by simp), hx y (by simp)]
  case call cl =>
    rw [evL_congr (xs := cl.args.toList) fun x h => hx x (by simp only [Array.toList_append, List.mem_append]; exact .inr h)]
    obtain ⟨callee, args, ats⟩ := cl
    cases callee with
    | builtin bi => rfl
    | value f => simp only; rw [hx f (by simp)]
    | invoke r m => simp only; rw [hx r (by simp)]
end
end Ev
end

section
namespace Ev
open Go Go.RowKit
set_option linter.unusedVariables false
set_option linter.unusedSimpArgs false
/-- One operation of a region in the order of the text: left out, or carried out in a part of its own. -/
def StepAt (op : AAct → Oper → (AV → E) → E) (all : List Oper) (aS : Nat → AAct) (tS : Nat → T AObj) (cS : Nat → Nat) (rc : Nat → Option (AV × Foot)) (i : Nat) (o : Oper) : Prop :=
  dstOk (aS i).sz o.dst = true ∧
    ((rc i = none ∧ wantA all (aS i) o = some false ∧ aS (i + 1) = (aS i).put o.dst undA ∧ tS (i + 1) = tS i ∧ cS (i + 1) = cS i) ∨
     (∃ v F, rc i = some (v, F) ∧ wantA all (aS i) o = some true ∧ aS (i + 1) = (aS i).put o.dst v ∧ (op (aS i) o .pure).run (tS i) (cS i) (cS i) Foot.empty = [some (v, tS (i + 1), cS (i + 1), F)]))
section
variable {Φ : Res → Prop} {b : Nat}
theorem regD_tr {op : AAct → Oper → (AV → E) → E} {all : List Oper} {k : AAct → E} : ∀ (rest : List Oper) (i : Nat) (a : AAct) (t : T AObj) (c : Nat) (F : Foot) (acc : List Step), all.drop i = rest → i ≤ all.length → All Φ ((regD op all rest i a acc k).run t c b F) → F.ok → b ≤ c →
    ∃ (aS : Nat → AAct) (tS : Nat → T AObj) (cS : Nat → Nat) (rc : Nat → Option (AV × Foot)) (accN : List Step) (F' : Foot), aS i = a ∧ tS i = t ∧ cS i = c ∧ (∀ j o, i ≤ j → all[j]? = some o → StepAt op all aS tS cS rc j o) ∧ clashFree all accN = true ∧ (∃ pre, accN = pre ++ acc) ∧
      (∀ j v F, i ≤ j → j < all.length → rc j = some (v, F) → ∃ pre post, accN = pre ++ ⟨j, cS j, cS (j + 1), F⟩ :: post ∧ (∀ p ∈ acc, p ∈ post) ∧ (∀ l v' F', i ≤ l → l < j → rc l = some (v', F') → (⟨l, cS l, cS (l + 1), F'⟩ : Step) ∈ post)) ∧
      All Φ ((k (aS all.length)).run (tS all.length) (cS all.length) b F') ∧ F'.ok ∧ c ≤ cS all.length
  | [], i, a, t, c, F, acc, hd, hi, hr, hF, hb => by
    have hN : all.length = i := by have := congrArg List.length hd; simp at this; omega
    simp only [regD] at hr
    cases hc : clashFree all acc with
    | false => rw [hc] at hr; exact (All.none (show All Φ [none] from hr)).elim
    | true =>
      rw [hc] at hr
      refine ⟨fun _ => a, fun _ => t, fun _ => c, fun _ => none, acc, F, rfl, rfl, rfl, fun j o hj ho => ?_, hc, ⟨[], rfl⟩, fun j v F hj hlt => by omega, hr, hF, Nat.le_refl _⟩
      have := (List.getElem?_eq_some_iff.1 ho).1
      omega
  | o :: rest, i, a, t, c, F, acc, hd, hi, hr, hF, hb => by
    have hlt : i < all.length := by
      have := congrArg List.length hd; simp at this; omega
    have hoi : all[i]? = some o := by
      have := congrArg List.head? hd
      rw [List.head?_drop] at this; exact this
    have hd' : all.drop (i + 1) = rest := by
      have := congrArg List.tail hd
      rw [List.tail_drop] at this; exact this
    simp only [regD] at hr
    cases hdo : dstOk a.sz o.dst with
    | false => rw [hdo] at hr; exact (All.none (show All Φ [none] from hr)).elim
    | true =>
      rw [hdo] at hr
      simp only [cond_true] at hr
      cases hw : wantA all a o with
      | none => rw [hw] at hr; exact (All.none (show All Φ [none] from hr)).elim
      | some wb =>
        rw [hw] at hr
        cases wb with
        | false =>
          obtain ⟨aS, tS, cS, rc, accN, F', e1, e2, e3, st, hcf, ⟨pre0, hpre0⟩, hmem, hk, hF', hup⟩ := regD_tr rest (i + 1) _ t c F acc hd' hlt hr hF hb
          refine ⟨fun j => if j ≤ i then a else aS j, fun j => if j ≤ i then t else tS j, fun j => if j ≤ i then c else cS j, fun j => if j ≤ i then none else rc j, accN, F', if_pos (Nat.le_refl _), if_pos (Nat.le_refl _), if_pos (Nat.le_refl _), fun j o' hj ho => ?_, hcf, ⟨pre0, hpre0⟩, fun j v F0 hj hjl hrc => ?_, ?_, hF', ?_⟩
          · by_cases ej : j = i
            · subst ej
              rw [hoi] at ho; cases ho
              refine ⟨by simp [hdo], .inl ⟨by simp, by simp [hw], ?_, ?_, ?_⟩⟩
              · simp only [if_neg (show ¬ j + 1 ≤ j by omega), Nat.le_refl, if_true, e1]
              · simp only [if_neg (show ¬ j + 1 ≤ j by omega), Nat.le_refl, if_true, e2]
              · simp only [if_neg (show ¬ j + 1 ≤ j by omega), Nat.le_refl, if_true, e3]
            · have := st j o' (by omega) ho
              unfold StepAt at this ⊢
              simp only [if_neg (show ¬ j ≤ i by omega), if_neg (show ¬ j + 1 ≤ i by omega)]
              exact this
          · by_cases ej : j ≤ i
            · simp only [if_pos ej] at hrc; cases hrc
            · simp only [if_neg ej, if_neg (show ¬ j + 1 ≤ i by omega)] at hrc ⊢
              obtain ⟨pre, post, h1, h2, h3⟩ := hmem j v F0 (by omega) hjl hrc
              refine ⟨pre, post, h1, h2, fun l v' F0' hl hlj hrl => ?_⟩
              by_cases el : l ≤ i
              · simp only [if_pos el] at hrl; cases hrl
              · simp only [if_neg el, if_neg (show ¬ l + 1 ≤ i by omega)] at hrl ⊢
                exact h3 l v' F0' (by omega) hlj hrl
          · simp only [if_neg (show ¬ all.length ≤ i by omega)]; exact hk
          · simp only [if_neg (show ¬ all.length ≤ i by omega)]; exact hup
        | true =>
          simp only at hr
          rw [run_scope] at hr
          have hr' := All.eachOf.1 hr
          have hne := run_ne (op a o .pure) t c c Foot.empty
          -- one out
          obtain ⟨v1, t1, c1, F1, hout⟩ : ∃ v1 t1 c1 F1, (op a o .pure).run t c c Foot.empty = [some (v1, t1, c1, F1)] := by
            cases hl : (op a o .pure).run t c c Foot.empty with
            | nil => exact absurd hl hne
            | cons r l =>
              rw [hl] at hr'
              obtain ⟨q, rfl, hq⟩ := hr' _ (List.mem_cons_self ..)
              cases l with
              | nil => obtain ⟨v1, t1, c1, F1⟩ := q; exact ⟨v1, t1, c1, F1, rfl⟩
              | cons r2 l =>
                have : many (some q :: r2 :: l) = true := rfl
                rw [this] at hq
                exact (All.none (show All Φ [none] from hq)).elim
          obtain ⟨q, e, hq⟩ := hr' (some (v1, t1, c1, F1)) (by rw [hout]; exact List.mem_cons_self ..)
          cases e
          rw [hout] at hq
          simp only [many, cond_false] at hq
          have kp := E.keeps _ _ _ _ _ (v1, t1, c1, F1) (by rw [hout]; exact List.mem_cons_self ..) (Nat.le_refl c) (fun x hx => absurd (Foot.look_empty x) hx)
          have kup : c ≤ c1 := kp.up
          obtain ⟨aS, tS, cS, rc, accN, F', e1, e2, e3, st, hcf, ⟨pre0, hpre0⟩, hmem, hk, hF', hup⟩ := regD_tr rest (i + 1) _ t1 c1 _ _ hd' hlt hq (Foot.merge_ok hF) (by omega)
          refine ⟨fun j => if j ≤ i then a else aS j, fun j => if j ≤ i then t else tS j, fun j => if j ≤ i then c else cS j, fun j => if j < i then none else if j = i then some (v1, F1) else rc j, accN, F', if_pos (Nat.le_refl _), if_pos (Nat.le_refl _), if_pos (Nat.le_refl _), fun j o' hj ho => ?_, hcf, ⟨pre0 ++ [⟨i, c, c1, F1⟩], by rw [hpre0]; simp⟩, fun j v F0 hj hjl hrc => ?_, ?_, hF', ?_⟩
          · by_cases ej : j = i
            · subst ej
              rw [hoi] at ho; cases ho
              refine ⟨by simp [hdo], .inr ⟨v1, F1, by simp, by simp [hw], by simp only [if_neg (show ¬ j + 1 ≤ j by omega), Nat.le_refl, if_true, e1], ?_⟩⟩
              simp only [Nat.le_refl, if_true, if_neg (show ¬ j + 1 ≤ j by omega), e2, e3]
              exact hout
            · have := st j o' (by omega) ho
              unfold StepAt at this ⊢
              simp only [if_neg (show ¬ j ≤ i by omega), if_neg (show ¬ j + 1 ≤ i by omega), if_neg (show ¬ j < i by omega), if_neg ej]
              exact this
          · by_cases ej : j = i
            · subst ej
              simp only [Nat.lt_irrefl, if_false, if_true, Option.some.injEq, Prod.mk.injEq] at hrc
              obtain ⟨rfl, rfl⟩ := hrc
              simp only [Nat.le_refl, if_true, if_neg (show ¬ j + 1 ≤ j by omega), e3]
              exact ⟨pre0, acc, hpre0, fun p hp => hp, fun l v' F' hl hlj => by omega⟩
            · have hj' : i < j := by omega
              simp only [if_neg (show ¬ j < i by omega), if_neg ej] at hrc
              simp only [if_neg (show ¬ j ≤ i by omega), if_neg (show ¬ j + 1 ≤ i by omega)]
              obtain ⟨pre, post, h1, h2, h3⟩ := hmem j v F0 (by omega) hjl hrc
              refine ⟨pre, post, h1, fun p hp => h2 p (List.mem_cons_of_mem _ hp), fun l v' F0' hl hlj hrl => ?_⟩
              by_cases el : l = i
              · subst el
                simp only [Nat.lt_irrefl, if_false, if_true, Option.some.injEq, Prod.mk.injEq] at hrl
                obtain ⟨rfl, rfl⟩ := hrl
                simp only [Nat.le_refl, if_true, if_neg (show ¬ l + 1 ≤ l by omega), e3]
                exact h2 _ (List.mem_cons_self ..)
              · simp only [if_neg (show ¬ l < i by omega), if_neg el] at hrl
                simp only [if_neg (show ¬ l ≤ i by omega), if_neg (show ¬ l + 1 ≤ i by omega)]
                exact h3 l v' F0' (by omega) hlj hrl
          · simp only [if_neg (show ¬ all.length ≤ i by omega)]; exact hk
          · simp only [if_neg (show ¬ all.length ≤ i by omega)]; omega
theorem clashFree_pair {all : List Oper} : ∀ {pre : List Step} {q : Step} {post : List Step}, clashFree all (pre ++ q :: post) = true → ∀ p ∈ post, clash p q = true → befB all all.length p.i q.i = true
  | [], q, post, h, p, hp, hc => by
    simp only [List.nil_append, clashFree, Bool.and_eq_true] at h
    have := List.all_eq_true.1 h.1 p hp
    rw [hc] at this; simpa using this
  | x :: pre, q, post, h, p, hp, hc => by
    simp only [List.cons_append, clashFree, Bool.and_eq_true] at h
    exact clashFree_pair h.2 p hp hc
end
end Ev
end

section
namespace Ev
open Go Go.RowKit
set_option linter.unusedVariables false
set_option linter.unusedSimpArgs false
open Classical in
/-- What was written by those of a set, in the order of the text. -/
noncomputable def hs (tS : Nat → T AObj) (cS : Nat → Nat) (rc : Nat → Option (AV × Foot)) (S : Nat → Bool) : Nat → Hp
  | 0 => (tS 0).look
  | i + 1 => fun x => if S i = true ∧ (∃ v F, rc i = some (v, F) ∧ (F.wrote x ∨ (cS i ≤ x ∧ x < cS (i + 1)))) then (tS (i + 1)).look x else hs tS cS rc S i x
def valAt (rc : Nat → Option (AV × Foot)) (i : Nat) : AV := match rc i with | some (v, _) => v | none => undA
open Classical in
noncomputable def es (aS : Nat → AAct) (all : List Oper) (rc : Nat → Option (AV × Foot)) (S : Nat → Bool) : Nat → Nat → AV
  | 0 => (aS 0).at
  | i + 1 => fun t => if S i = true ∧ (∃ o, all[i]? = some o ∧ o.dst = some t) then valAt rc i else es aS all rc S i t
theorem put_at (a : AAct) (d : Option Tmp) (v : AV) (t : Nat) : (a.put d v).at t = if d = some t then v else a.at t := by
  cases d with
  | none => rfl
  | some d =>
    rw [at_eq, at_eq]
    show ((a.tm.put v d).look t).getD undA = _
    rw [T.look_put]
    by_cases e : t = d
    · subst e; simp
    · rw [if_neg e, if_neg (fun h => e (Option.some.inj h).symm)]
theorem put_sz (a : AAct) (d : Option Tmp) (v : AV) : (a.put d v).sz = a.sz ∧ (a.put d v).ds = a.ds := by cases d <;> exact ⟨rfl, rfl⟩
section
variable {tb : Tab} {call : FuncId → List AV → (AV → E) → E} {all : List Oper} {aS : Nat → AAct} {tS : Nat → T AObj} {cS : Nat → Nat} {rc : Nat → Option (AV × Foot)} {S : Nat → Bool}
/-- The whole trace of a region. -/
structure Trc (tb : Tab) (call : FuncId → List AV → (AV → E) → E) (all : List Oper) (aS : Nat → AAct) (tS : Nat → T AObj) (cS : Nat → Nat) (rc : Nat → Option (AV × Foot)) : Prop where
  st : ∀ j o, all[j]? = some o → StepAt (opE tb call) all aS tS cS rc j o
  pair : ∀ i j v F v' F', i < j → j < all.length → rc i = some (v, F) → rc j = some (v', F') → clash ⟨i, cS i, cS (i + 1), F⟩ ⟨j, cS j, cS (j + 1), F'⟩ = true → befB all all.length i j = true
  reg : regOk all = true
theorem Trc.oper (tr : Trc tb call all aS tS cS rc) {i : Nat} (h : i < all.length) : ∃ o, all[i]? = some o := ⟨_, List.getElem?_eq_getElem h⟩
theorem Trc.ran (tr : Trc tb call all aS tS cS rc) {i : Nat} (h : i < all.length) {v : AV} {F : Foot} (hr : rc i = some (v, F)) : F.ok ∧ (∀ x, F.has x → x < cS i) ∧ cS i ≤ cS (i + 1) ∧ ∀ x, ¬ F.wrote x → ¬ (cS i ≤ x ∧ x < cS (i + 1)) → (tS (i + 1)).look x = (tS i).look x := by
  obtain ⟨o, ho⟩ := tr.oper h
  rcases (tr.st i o ho).2 with ⟨h1, _⟩ | ⟨v', F', h1, _, _, hrun⟩
  · rw [hr] at h1; cases h1
  · rw [hr] at h1; cases h1
    have kp := E.keeps _ _ _ _ _ (v, tS (i + 1), cS (i + 1), F) (by rw [hrun]; exact List.mem_cons_self ..) (Nat.le_refl _) (fun x hx => absurd (Foot.look_empty x) hx)
    refine ⟨kp.ok, fun x hx => ?_, kp.up, kp.same⟩
    rcases kp.low x hx with h | h
    · exact absurd (Foot.look_empty x) h
    · exact h
theorem Trc.up1 (tr : Trc tb call all aS tS cS rc) {i : Nat} (h : i < all.length) : cS i ≤ cS (i + 1) := by
  obtain ⟨o, ho⟩ := tr.oper h
  rcases (tr.st i o ho).2 with ⟨_, _, _, _, h1⟩ | ⟨v', F', h1, _⟩
  · omega
  · exact (tr.ran h h1).2.2.1
theorem Trc.up (tr : Trc tb call all aS tS cS rc) {i : Nat} : ∀ {j : Nat}, i ≤ j → j ≤ all.length → cS i ≤ cS j := by
  intro j hij hj
  induction j with
  | zero => rw [show i = 0 by omega]; exact Nat.le_refl _
  | succ j ih =>
    by_cases e : i = j + 1
    · rw [e]; exact Nat.le_refl _
    · exact Nat.le_trans (ih (by omega) (by omega)) (tr.up1 (by omega))
theorem Trc.same (tr : Trc tb call all aS tS cS rc) {i : Nat} (h : i < all.length) {x : Nat} (hx : ¬ ∃ v F, rc i = some (v, F) ∧ (F.wrote x ∨ (cS i ≤ x ∧ x < cS (i + 1)))) : (tS (i + 1)).look x = (tS i).look x := by
  obtain ⟨o, ho⟩ := tr.oper h
  rcases (tr.st i o ho).2 with ⟨_, _, _, h1, _⟩ | ⟨v', F', h1, _⟩
  · rw [h1]
  · exact (tr.ran h h1).2.2.2 x (fun hw => hx ⟨v', F', h1, .inl hw⟩) (fun hr => hx ⟨v', F', h1, .inr hr⟩)
theorem clash_of {p q : Step} (hq : q.F.ok) {x : Nat} (hx : q.F.has x) (h : (p.c0 ≤ x ∧ x < p.c1) ∨ p.F.wrote x ∨ (p.F.has x ∧ q.F.wrote x)) : clash p q = true := by
  unfold clash
  rw [List.any_eq_true]
  refine ⟨x, hq x hx, ?_⟩
  rcases h with ⟨h1, h2⟩ | h | ⟨h1, h2⟩
  · rw [Nat.ble_eq.mpr h1, blt_yes h2]; rfl
  · unfold Foot.wrote at h; rw [h]; simp
  · unfold Foot.has at h1
    cases e : p.F.mark.look x with
    | none => exact absurd e h1
    | some b =>
      cases b with
      | true => simp
      | false => unfold Foot.wrote at h2; rw [h2]; simp
theorem Trc.edges (tr : Trc tb call all aS tS cS rc) {j : Nat} {o : Oper} (ho : all[j]? = some o) : (∀ e ∈ o.after.toList, Region.binds .any e = true → e.on < j) ∧ ∀ i p, i < j → all[i]? = some p → befB all all.length i j = true ∨ apartT all p o = true := by
  have hj := (List.getElem?_eq_some_iff.1 ho).1
  have h := tr.reg
  unfold regOk at h
  have := List.all_eq_true.1 h j (List.mem_range.2 hj)
  rw [ho] at this
  simp only [Bool.and_eq_true] at this
  obtain ⟨h1, h2⟩ := this
  refine ⟨fun e he hb => ?_, fun i p hi hp => ?_⟩
  · have := List.all_eq_true.1 h1 e he
    rw [hb] at this
    simpa [Nat.blt_eq] using this
  · have := List.all_eq_true.1 h2 i (List.mem_range.2 hi)
    rw [hp] at this
    simpa using this
/-- A set that holds, with each, what stands before it. -/
def Closed (all : List Oper) (S : Nat → Bool) : Prop := ∀ i o, all[i]? = some o → S i = true → ∀ e ∈ o.after.toList, Region.binds .any e = true → S e.on = true
def Rdy (all : List Oper) (S : Nat → Bool) (j : Nat) : Prop := ∀ o, all[j]? = some o → ∀ e ∈ o.after.toList, Region.binds .any e = true → S e.on = true
theorem bef_in (hc : Closed all S) : ∀ (n i j : Nat), Rdy all S j → befB all n i j = true → S i = true
  | 0, i, j, _, h => by simp [befB] at h
  | n + 1, i, j, hr, h => by
    simp only [befB] at h
    cases ho : all[j]? with
    | none => rw [ho] at h; cases h
    | some o =>
      rw [ho] at h
      simp only [List.any_eq_true, Bool.and_eq_true, Bool.or_eq_true, Nat.beq_eq] at h
      obtain ⟨e, he, hb, h⟩ := h
      have hs := hr o ho e he hb
      rcases h with h | h
      · rw [← h]; exact hs
      · exact bef_in hc n i e.on (fun o' ho' e' he' hb' => hc e.on o' ho' hs e' he' hb') h
theorem Trc.readH (tr : Trc tb call all aS tS cS rc) (hc : Closed all S) {j : Nat} (hj : j < all.length) (hr : Rdy all S j) (hn : S j = false) {v : AV} {F : Foot} (hrc : rc j = some (v, F)) {x : Nat} (hx : F.has x) : hs tS cS rc S all.length x = (tS j).look x := by
  obtain ⟨fok, flow, _, _⟩ := tr.ran hj hrc
  have c1 : ∀ m, m ≤ j → hs tS cS rc S m x = (tS m).look x := by
    intro m
    induction m with
    | zero => intro _; rfl
    | succ m ih =>
      intro hm
      simp only [hs]
      by_cases hd : ∃ v F, rc m = some (v, F) ∧ (F.wrote x ∨ (cS m ≤ x ∧ x < cS (m + 1)))
      · obtain ⟨v', F', h1, h2⟩ := hd
        have hbef := tr.pair m j v' F' v F (by omega) hj h1 hrc (clash_of fok hx (h2.elim (fun h => .inr (.inl h)) .inl))
        have := bef_in hc _ m j hr hbef
        rw [if_pos ⟨this, v', F', h1, h2⟩]
      · rw [if_neg (fun h => hd h.2), ih (by omega)]
        exact (tr.same (by omega) hd).symm
  have c2 : ∀ d, j + d ≤ all.length → hs tS cS rc S (j + d) x = (tS j).look x := by
    intro d
    induction d with
    | zero => intro _; exact c1 j (Nat.le_refl _)
    | succ d ih =>
      intro hd
      show hs tS cS rc S (j + d + 1) x = _
      simp only [hs]
      rw [if_neg, ih (by omega)]
      rintro ⟨hsd, v', F', h1, h2⟩
      by_cases e : d = 0
      · subst e; rw [Nat.add_zero] at hsd; rw [hn] at hsd; cases hsd
      · rcases h2 with h2 | h2
        · obtain ⟨fok', _, _, _⟩ := tr.ran (show j + d < all.length by omega) h1
          have hbef := tr.pair j (j + d) v F v' F' (by omega) (by omega) hrc h1 (clash_of fok' (Foot.wrote_has h2) (.inr (.inr ⟨hx, h2⟩)))
          have := bef_in hc _ j (j + d) (fun o ho e he hb => hc _ o ho hsd e he hb) hbef
          rw [hn] at this; cases this
        · have := flow x hx
          have := tr.up (show j ≤ j + d by omega) (by omega)
          omega
  have := c2 (all.length - j) (by omega)
  rwa [show j + (all.length - j) = all.length by omega] at this
theorem Trc.freshH (tr : Trc tb call all aS tS cS rc) (hc : Closed all S) {j : Nat} (hj : j < all.length) (hn : S j = false) {v : AV} {F : Foot} (hrc : rc j = some (v, F)) {x : Nat} (hx : cS j ≤ x ∧ x < cS (j + 1)) (h0 : (tS 0).look x = none) : hs tS cS rc S all.length x = none := by
  have key : ∀ m, m ≤ all.length → hs tS cS rc S m x = none := by
    intro m
    induction m with
    | zero => intro _; exact h0
    | succ m ih =>
      intro hm
      simp only [hs]
      rw [if_neg, ih (by omega)]
      rintro ⟨hsd, v', F', h1, h2⟩
      obtain ⟨fok', flow', _, _⟩ := tr.ran (show m < all.length by omega) h1
      by_cases e : m = j
      · subst e; rw [hn] at hsd; cases hsd
      · by_cases el : m < j
        · have := tr.up (show m + 1 ≤ j by omega) (by omega)
          have := tr.up1 (show m < all.length by omega)
          rcases h2 with h2 | h2
          · have := flow' x (Foot.wrote_has h2); omega
          · omega
        · have := tr.up (show j + 1 ≤ m by omega) (by omega)
          rcases h2 with h2 | h2
          · have hbef := tr.pair j m v F v' F' (by omega) (by omega) hrc h1 (clash_of fok' (Foot.wrote_has h2) (.inl hx))
            have := bef_in hc _ j m (fun o ho e he hb => hc _ o ho hsd e he hb) hbef
            rw [hn] at this; cases this
          · omega
  exact key _ (Nat.le_refl _)
/-- The set with one more. -/
def plus (S : Nat → Bool) (j : Nat) : Nat → Bool := fun i => if i = j then true else S i
theorem Trc.plusH (tr : Trc tb call all aS tS cS rc) (hc : Closed all S) {j : Nat} (hj : j < all.length) (hn : S j = false) (x : Nat) :
    ((∃ v F, rc j = some (v, F) ∧ (F.wrote x ∨ (cS j ≤ x ∧ x < cS (j + 1)))) → hs tS cS rc (plus S j) all.length x = (tS (j + 1)).look x) ∧
    ((¬ ∃ v F, rc j = some (v, F) ∧ (F.wrote x ∨ (cS j ≤ x ∧ x < cS (j + 1)))) → hs tS cS rc (plus S j) all.length x = hs tS cS rc S all.length x) := by
  refine ⟨fun ⟨v, F, hrc, hx⟩ => ?_, fun hx => ?_⟩
  · obtain ⟨fok, flow, _, _⟩ := tr.ran hj hrc
    have key : ∀ d, j + 1 + d ≤ all.length → hs tS cS rc (plus S j) (j + 1 + d) x = (tS (j + 1)).look x := by
      intro d
      induction d with
      | zero => intro _; show hs tS cS rc (plus S j) (j + 1) x = _; simp only [hs]; rw [if_pos ⟨by simp [plus], v, F, hrc, hx⟩]
      | succ d ih =>
        intro hd
        show hs tS cS rc (plus S j) (j + 1 + d + 1) x = _
        simp only [hs]
        rw [if_neg, ih (by omega)]
        rintro ⟨hsd, v', F', h1, h2⟩
        simp only [plus, if_neg (show ¬ j + 1 + d = j by omega)] at hsd
        obtain ⟨fok', flow', _, _⟩ := tr.ran (show j + 1 + d < all.length by omega) h1
        have hu := tr.up (show j + 1 ≤ j + 1 + d by omega) (by omega)
        have contra : clash ⟨j, cS j, cS (j + 1), F⟩ ⟨j + 1 + d, cS (j + 1 + d), cS (j + 1 + d + 1), F'⟩ = true → False := fun hcl => by
          have := bef_in hc _ j (j + 1 + d) (fun o ho e he hb => hc _ o ho hsd e he hb) (tr.pair j (j + 1 + d) v F v' F' (by omega) (by omega) hrc h1 hcl)
          rw [hn] at this; cases this
        rcases h2 with h2 | h2
        · exact contra (clash_of fok' (Foot.wrote_has h2) (hx.elim (fun h => .inr (.inl h)) .inl))
        · rcases hx with hx | hx
          · have := flow x (Foot.wrote_has hx)
            have := tr.up1 hj
            omega
          · omega
    have := key (all.length - (j + 1)) (by omega)
    rwa [show j + 1 + (all.length - (j + 1)) = all.length by omega] at this
  · have : ∀ m, hs tS cS rc (plus S j) m x = hs tS cS rc S m x := by
      intro m
      induction m with
      | zero => rfl
      | succ m ih =>
        simp only [hs]
        by_cases e : m = j
        · subst e
          rw [if_neg (fun h => hx h.2), if_neg (fun h => hx h.2), ih]
        · have ep : plus S j m = S m := by unfold plus; rw [if_neg e]
          rw [ep, ih]
    exact this _
theorem Trc.at1 (tr : Trc tb call all aS tS cS rc) {i : Nat} (h : i < all.length) {o : Oper} (ho : all[i]? = some o) (t : Nat) : (aS (i + 1)).at t = (if o.dst = some t then valAt rc i else (aS i).at t) ∧ (aS (i + 1)).sz = (aS i).sz ∧ (aS (i + 1)).ds = (aS i).ds := by
  rcases (tr.st i o ho).2 with ⟨h1, _, h2, _⟩ | ⟨v, F, h1, _, h2, _⟩
  · rw [h2, put_at]; unfold valAt; rw [h1]; exact ⟨rfl, (put_sz _ _ _).1, (put_sz _ _ _).2⟩
  · rw [h2, put_at]; unfold valAt; rw [h1]; exact ⟨rfl, (put_sz _ _ _).1, (put_sz _ _ _).2⟩
theorem apartT_no {p o : Oper} (h : apartT all p o = true) {d : Tmp} : (p.dst = some d → d ∉ lookT all o ∧ o.dst ≠ some d) ∧ (o.dst = some d → d ∉ lookT all p) := by
  unfold apartT at h
  simp only [Bool.and_eq_true] at h
  refine ⟨fun hp => ?_, fun ho => ?_⟩
  · have := h.1
    rw [hp] at this
    simpa using this
  · have := h.2
    rw [ho] at this
    simpa using this
theorem Trc.readE (tr : Trc tb call all aS tS cS rc) (hc : Closed all S) {j : Nat} (hj : j < all.length) (hr : Rdy all S j) (hn : S j = false) {o : Oper} (ho : all[j]? = some o) {t : Nat} (ht : t ∈ lookT all o) : es aS all rc S all.length t = (aS j).at t := by
  have c1 : ∀ m, m ≤ j → es aS all rc S m t = (aS m).at t := by
    intro m
    induction m with
    | zero => intro _; rfl
    | succ m ih =>
      intro hm
      obtain ⟨p, hp⟩ := tr.oper (show m < all.length by omega)
      simp only [es]
      rw [(tr.at1 (by omega) hp t).1]
      by_cases hd : p.dst = some t
      · rw [if_pos hd]
        have hS : S m = true := by
          rcases (tr.edges ho).2 m p (by omega) hp with h | h
          · exact bef_in hc _ m j hr h
          · exact absurd ht ((apartT_no h).1 hd).1
        rw [if_pos ⟨hS, p, hp, hd⟩]
      · rw [if_neg hd, if_neg, ih (by omega)]
        rintro ⟨_, p', hp', hd'⟩
        rw [hp] at hp'; cases hp'; exact hd hd'
  have c2 : ∀ d, j + d ≤ all.length → es aS all rc S (j + d) t = (aS j).at t := by
    intro d
    induction d with
    | zero => intro _; exact c1 j (Nat.le_refl _)
    | succ d ih =>
      intro hd
      show es aS all rc S (j + d + 1) t = _
      simp only [es]
      rw [if_neg, ih (by omega)]
      rintro ⟨hsd, p, hp, hpd⟩
      by_cases e : d = 0
      · subst e; rw [Nat.add_zero] at hsd; rw [hn] at hsd; cases hsd
      · rcases (tr.edges hp).2 j o (by omega) ho with h | h
        · have := bef_in hc _ j (j + d) (fun o ho e he hb => hc _ o ho hsd e he hb) h
          rw [hn] at this; cases this
        · exact (apartT_no h).2 hpd ht
  have := c2 (all.length - j) (by omega)
  rwa [show j + (all.length - j) = all.length by omega] at this
theorem Trc.plusE (tr : Trc tb call all aS tS cS rc) (hc : Closed all S) {j : Nat} (hj : j < all.length) (hn : S j = false) {o : Oper} (ho : all[j]? = some o) (t : Nat) : es aS all rc (plus S j) all.length t = if o.dst = some t then valAt rc j else es aS all rc S all.length t := by
  by_cases hd : o.dst = some t
  · rw [if_pos hd]
    have key : ∀ d, j + 1 + d ≤ all.length → es aS all rc (plus S j) (j + 1 + d) t = valAt rc j := by
      intro d
      induction d with
      | zero => intro _; show es aS all rc (plus S j) (j + 1) t = _; simp only [es]; rw [if_pos ⟨by simp [plus], o, ho, hd⟩]
      | succ d ih =>
        intro hdl
        show es aS all rc (plus S j) (j + 1 + d + 1) t = _
        simp only [es]
        rw [if_neg, ih (by omega)]
        rintro ⟨hsd, p, hp, hpd⟩
        simp only [plus, if_neg (show ¬ j + 1 + d = j by omega)] at hsd
        rcases (tr.edges hp).2 j o (by omega) ho with h | h
        · have := bef_in hc _ j (j + 1 + d) (fun o ho e he hb => hc _ o ho hsd e he hb) h
          rw [hn] at this; cases this
        · exact ((apartT_no h).1 hd).2 hpd
    have := key (all.length - (j + 1)) (by omega)
    rwa [show j + 1 + (all.length - (j + 1)) = all.length by omega] at this
  · rw [if_neg hd]
    have : ∀ m, es aS all rc (plus S j) m t = es aS all rc S m t := by
      intro m
      induction m with
      | zero => rfl
      | succ m ih =>
        simp only [es]
        by_cases e : m = j
        · subst e
          have h : ¬ ∃ p, all[m]? = some p ∧ p.dst = some t := fun ⟨p, hp, hpd⟩ => by rw [ho] at hp; cases hp; exact hd hpd
          rw [if_neg (fun hh => h hh.2), if_neg (fun hh => h hh.2), ih]
        · have ep : plus S j m = S m := by unfold plus; rw [if_neg e]
          rw [ep, ih]
    exact this _
theorem Trc.allS (tr : Trc tb call all aS tS cS rc) (hS : ∀ i, i < all.length → S i = true) : (∀ x, hs tS cS rc S all.length x = (tS all.length).look x) ∧ (∀ t, es aS all rc S all.length t = (aS all.length).at t) := by
  refine ⟨fun x => ?_, fun t => ?_⟩
  · have : ∀ m, m ≤ all.length → hs tS cS rc S m x = (tS m).look x := by
      intro m
      induction m with
      | zero => intro _; rfl
      | succ m ih =>
        intro hm
        simp only [hs]
        by_cases hd : ∃ v F, rc m = some (v, F) ∧ (F.wrote x ∨ (cS m ≤ x ∧ x < cS (m + 1)))
        · rw [if_pos ⟨hS m (by omega), hd⟩]
        · rw [if_neg (fun h => hd h.2), ih (by omega)]; exact (tr.same (by omega) hd).symm
    exact this _ (Nat.le_refl _)
  · have : ∀ m, m ≤ all.length → es aS all rc S m t = (aS m).at t := by
      intro m
      induction m with
      | zero => intro _; rfl
      | succ m ih =>
        intro hm
        obtain ⟨p, hp⟩ := tr.oper (show m < all.length by omega)
        simp only [es]
        rw [(tr.at1 (by omega) hp t).1]
        by_cases hd : p.dst = some t
        · rw [if_pos hd, if_pos ⟨hS m (by omega), p, hp, hd⟩]
        · rw [if_neg hd, if_neg, ih (by omega)]
          rintro ⟨_, p', hp', hd'⟩
          rw [hp] at hp'; cases hp'; exact hd hd'
    exact this _ (Nat.le_refl _)
end
end Ev
end

section
namespace Ev
open Go Go.RowKit
set_option linter.unusedVariables false
set_option linter.unusedSimpArgs false
/-- How many of the first are not in a set. -/
def cnt (f : Nat → Bool) : Nat → Nat
  | 0 => 0
  | m + 1 => cnt f m + (if f m = true then 0 else 1)
theorem cnt_all {f : Nat → Bool} : ∀ {m : Nat}, cnt f m = 0 → ∀ i, i < m → f i = true
  | 0, _, i, h => by omega
  | m + 1, h, i, hi => by
    simp only [cnt] at h
    obtain ⟨h1, h2⟩ := Nat.add_eq_zero_iff.1 h
    by_cases e : i = m
    · subst e
      by_cases hf : f i = true
      · exact hf
      · rw [if_neg hf] at h2; omega
    · exact cnt_all h1 i (by omega)
theorem cnt_le {f : Nat → Bool} : ∀ {m : Nat}, cnt f m ≤ m
  | 0 => Nat.le_refl _
  | m + 1 => by
    have := @cnt_le f m
    simp only [cnt]
    split <;> omega
theorem cnt_plus {f : Nat → Bool} {j : Nat} (hj : f j = false) : ∀ {m : Nat}, (m ≤ j → cnt (plus f j) m = cnt f m) ∧ (j < m → cnt (plus f j) m + 1 = cnt f m) := by
  intro m
  induction m with
  | zero => exact ⟨fun _ => rfl, fun h => by omega⟩
  | succ m ih =>
    obtain ⟨i1, i2⟩ := ih
    refine ⟨fun h => ?_, fun h => ?_⟩
    · have ep : plus f j m = f m := by unfold plus; rw [if_neg (by omega)]
      simp only [cnt]
      rw [ep, i1 (by omega)]
    · simp only [cnt]
      by_cases e : m = j
      · subst e
        have ep : plus f m m = true := by simp [plus]
        rw [i1 (Nat.le_refl _), if_pos ep, hj]
        simp
      · have ep : plus f j m = f m := by unfold plus; rw [if_neg e]
        rw [ep]
        have := i2 (by omega)
        generalize (if f m = true then 0 else 1) = z
        omega
theorem closed_plus {all : List Oper} {S : Nat → Bool} {j : Nat} (hc : Closed all S) (hr : Rdy all S j) : Closed all (plus S j) := fun i o ho hs e he hb => by
  have : S e.on = true := by
    by_cases ei : i = j
    · subst ei; exact hr o ho e he hb
    · exact hc i o ho (by unfold plus at hs; rwa [if_neg ei] at hs) e he hb
  unfold plus
  split
  · rfl
  · exact this
theorem set_plus {listed : Array Bool} {i : Nat} (hi : i < listed.size) : (fun k => (listed.setIfInBounds i true).getD k false) = plus (fun k => listed.getD k false) i := by
  funext k
  unfold plus
  simp only [Array.getD_eq_getD_getElem?, Array.getElem?_setIfInBounds]
  by_cases e : k = i
  · subst e; simp [hi]
  · rw [if_neg (fun h => e h.symm), if_neg e]
theorem ready_of {ops : Array Oper} {listed : Array Bool} {i : Nat} (h : i ∈ Region.ready .any ops listed) : i < ops.size ∧ listed.getD i true = false ∧ Rdy ops.toList (fun k => listed.getD k false) i := by
  unfold Region.ready at h
  rw [List.mem_filter, List.mem_range, Bool.and_eq_true] at h
  obtain ⟨h1, h2, h3⟩ := h
  refine ⟨h1, by simpa using h2, fun o ho e he hb => ?_⟩
  rw [Array.getElem?_toList] at ho
  rw [ho] at h3
  simp only [Option.map_some, Option.getD_some] at h3
  rw [← Array.all_toList] at h3
  have := List.all_eq_true.1 h3 e he
  rw [hb] at this
  simpa using this
theorem ready_in {ops : Array Oper} {listed : Array Bool} {i : Nat} (h1 : i < ops.size) (h2 : listed.getD i true = false) (h3 : Rdy ops.toList (fun k => listed.getD k false) i) : i ∈ Region.ready .any ops listed := by
  unfold Region.ready
  rw [List.mem_filter, List.mem_range, Bool.and_eq_true]
  refine ⟨h1, by rw [h2]; rfl, ?_⟩
  have ho : ops[i]? = some ops[i] := Array.getElem?_eq_getElem h1
  rw [ho]
  simp only [Option.map_some, Option.getD_some]
  rw [← Array.all_toList]
  refine List.all_eq_true.2 fun e he => ?_
  cases hb : Region.binds .any e with
  | false => rfl
  | true =>
    have := h3 ops[i] (by rw [Array.getElem?_toList]; exact ho) e he hb
    simpa using this
theorem rel_bool {σ : Nat → Value} {μ : Mu} {v : AV} {q : Bool} (h : Rel σ μ v (.bool q)) : v = .bool q ∨ ∃ n, v = .sym n := by
  cases v with
  | bool b => have e : Value.bool q = .bool b := h; cases e; exact .inl rfl
  | sym n => exact .inr ⟨n, rfl⟩
  | ptr a => cases a <;> simp [Rel] at h
  | slice a n sz cap => cases a <;> simp [Rel] at h
  | map r => cases r <;> simp [Rel] at h
  | _ => simp [Rel] at h
theorem wantA_congr {all : List Oper} {a a' : AAct} {o : Oper} (h : ∀ t ∈ lookT all o, a.at t = a'.at t) : wantA all a o = wantA all a' o := by
  unfold wantA
  cases hg : o.guard with
  | none => rfl
  | some p =>
    obtain ⟨j, want⟩ := p
    simp only
    cases hp : all[j]? with
    | none => rfl
    | some p =>
      simp only
      cases hd : p.dst with
      | none => rfl
      | some d =>
        have := h d (by unfold lookT; rw [List.mem_append]; refine .inr ?_; simp [hg, hp, hd])
        simp only [this]
theorem wantA_ok {σ : Nat → Value} {μ : Mu} {ops : Array Oper} {a : AAct} {ca : Act} (ra : ActRel σ μ a ca) {o : Oper} {b : Bool} (h : wantA ops.toList a o = some b) : Region.wanted o (yielded ops ca.tmps) = b := by
  unfold wantA at h
  unfold Region.wanted
  cases hg : o.guard with
  | none => rw [hg] at h; simp only [Option.some.injEq] at h; exact h
  | some p =>
    obtain ⟨j, want⟩ := p
    rw [hg] at h
    simp only at h ⊢
    unfold yielded
    rw [← Array.getElem?_toList]
    cases hp : ops.toList[j]? with
    | none => rw [hp] at h; simp only [Option.some.injEq] at h; subst h; rfl
    | some p =>
      rw [hp] at h
      simp only [Option.bind_some] at h ⊢
      cases hd : p.dst with
      | none => rw [hd] at h; simp only [Option.some.injEq] at h; subst h; rfl
      | some d =>
        rw [hd] at h
        simp only [Option.bind_some] at h ⊢
        have r := ra.tmps d
        rw [Array.getD_eq_getD_getElem?] at r
        split
        · rename_i q e
          rw [e] at r
          rcases rel_bool r with hv | ⟨n, hv⟩
          · rw [hv] at h
            simp only [Option.some.injEq] at h
            subst h
            cases q <;> cases want <;> rfl
          · rw [hv] at h; cases h
        · rename_i hne
          cases hv : a.at d with
          | bool q =>
            rw [hv] at r
            have r : ca.tmps[d]?.getD undef = .bool q := r
            cases e : ca.tmps[d]? with
            | none => rw [e] at r; cases r
            | some u => rw [e] at r; simp only [Option.getD_some] at r; subst r; exact (hne q e).elim
          | sym n => rw [hv] at h; cases h
          | _ => rw [hv] at h; simp only [Option.some.injEq] at h; subst h; rfl
section
variable {P : Program} {tb : Tab} {σ : Nat → Value} {B : Nat} {w0 : World} {Φ : Res → Prop} {cE : Nat} {b : Nat} {μ : Mu} {t : T AObj} {c : Nat} {F : Foot} {w : World} {a : AAct} {ca : Act}
variable {call : FuncId → List AV → (AV → E) → E} {aS : Nat → AAct} {tS : Nat → T AObj} {cS : Nat → Nat} {rc : Nat → Option (AV × Foot)}
/-- The state after a set of operations, in whatever order. -/
def Comp (σ : Nat → Value) (B : Nat) (w0 : World) (all : List Oper) (aS : Nat → AAct) (tS : Nat → T AObj) (cS : Nat → Nat) (rc : Nat → Option (AV × Foot)) (μ0 : Mu) (S : Nat → Bool) (ca : Act) (w : World) : Prop :=
  ∃ (μ1 : Mu) (t2 : T AObj) (a2 : AAct), Inv σ B w0 μ1 t2.look w ∧ (∀ x, t2.look x = hs tS cS rc S all.length x) ∧ ActRel σ μ1 a2 ca ∧ (∀ t, a2.at t = es aS all rc S all.length t) ∧ a2.sz = (aS 0).sz ∧ a2.ds = (aS 0).ds ∧ Later μ0 (cS 0) μ1 (cS all.length)
theorem Trc.szS {all : List Oper} (tr : Trc tb call all aS tS cS rc) : ∀ {i : Nat}, i ≤ all.length → (aS i).sz = (aS 0).sz ∧ (aS i).ds = (aS 0).ds
  | 0, _ => ⟨rfl, rfl⟩
  | i + 1, h => by
    obtain ⟨o, ho⟩ := tr.oper (show i < all.length by omega)
    obtain ⟨_, h1, h2⟩ := tr.at1 (show i < all.length by omega) ho 0
    obtain ⟨h3, h4⟩ := tr.szS (i := i) (by omega)
    exact ⟨h1.trans h3, h2.trans h4⟩
theorem Foot.ok_empty : Foot.empty.ok := fun x hx => absurd (Foot.look_empty x) hx
theorem regD_any (ok : TabOk P tb) (hσ : Syms σ) (hcall : ∀ (Φ : Res → Prop) (cE : Nat), (∀ q, Φ q → q.2.2.1 ≤ cE) → CallOk P σ B w0 Φ cE call) {ops : Array Oper} (tr : Trc tb call ops.toList aS tS cS rc)
    (h0 : ∀ x, cS 0 ≤ x → x < cS ops.toList.length → (tS 0).look x = none) {Q : Exit → Act → World → Prop} {μ0 : Mu}
    (hQ : ∀ S ca w, (∀ i, i < ops.toList.length → S i = true) → Comp σ B w0 ops.toList aS tS cS rc μ0 S ca w → Q .normal ca w) :
    ∀ (n : Nat) (listed : Array Bool) (ca : Act) (w : World), listed.size = ops.size → Closed ops.toList (fun i => listed.getD i false) → cnt (fun i => listed.getD i false) ops.size ≤ n →
      Comp σ B w0 ops.toList aS tS cS rc μ0 (fun i => listed.getD i false) ca w → wpAny P .any ops Q n listed ca w := by
  intro n
  induction n with
  | zero =>
    intro listed ca w hsz hcl hcn hco
    have hall := cnt_all (Nat.le_zero.1 hcn)
    refine ⟨?_, hQ _ ca w (fun i hi => hall i (by simpa using hi)) hco⟩
    cases hr : Region.ready .any ops listed with
    | nil => rfl
    | cons i l =>
      obtain ⟨h1, h2, _⟩ := ready_of (show i ∈ Region.ready .any ops listed by rw [hr]; exact List.mem_cons_self ..)
      have h3 := hall i h1
      have hi : i < listed.size := by omega
      simp only [Array.getD, hi, dif_pos] at h2 h3
      rw [h2] at h3; cases h3
  | succ n ih =>
    intro listed ca w hsz hcl hcn hco
    refine ⟨fun hr => hQ _ ca w (fun i hi => ?_) hco, fun i hi => ?_⟩
    · induction i using Nat.strongRecOn with
      | ind i ih2 =>
        cases hS : listed.getD i false with
        | true => rfl
        | false =>
          have hi' : i < ops.size := by simpa using hi
          have hi2 : i < listed.size := by omega
          have : i ∈ Region.ready .any ops listed := ready_in hi' (by simp only [Array.getD, hi2, dif_pos] at hS ⊢; exact hS) (fun o ho e he hb => by
            have hlt := (tr.edges ho).1 e he hb
            exact ih2 e.on hlt (by omega))
          rw [hr] at this; cases this
    · obtain ⟨h1, h2, hrd⟩ := ready_of hi
      have hi2 : i < listed.size := by omega
      have hn : (fun k => listed.getD k false) i = false := by
        show listed.getD i false = false
        simp only [Array.getD, hi2, dif_pos] at h2 ⊢; exact h2
      have hlt : i < ops.toList.length := by simpa using h1
      obtain ⟨o, ho⟩ := tr.oper hlt
      have ho' : ops[i]? = some o := by rw [← Array.getElem?_toList]; exact ho
      obtain ⟨μ1, t2, a2, hinv, hh, ra, hat, hsz2, hds2, lat⟩ := hco
      have hS := set_plus hi2
      have hread : ∀ t ∈ lookT ops.toList o, (aS i).at t = a2.at t := fun t ht => by rw [hat t]; exact (tr.readE hcl hlt hrd hn ho ht).symm
      have hdst : dstOk a2.sz o.dst = true := by rw [hsz2, ← (tr.szS (Nat.le_of_lt hlt)).1]; exact (tr.st i o ho).1
      have hcnt : cnt (plus (fun k => listed.getD k false) i) ops.size ≤ n := by
        have := (cnt_plus (f := fun k => listed.getD k false) hn (m := ops.size)).2 h1
        omega
      unfold wpOp
      rw [ho']
      simp only
      rcases (tr.st i o ho).2 with ⟨hrc, hw, h3, h4, h5⟩ | ⟨v, F, hrc, hw, h3, hrun⟩
      · have hw' : Region.wanted o (yielded ops ca.tmps) = false := wantA_ok ra ((wantA_congr hread).symm.trans hw)
        rw [if_neg (by rw [hw']; simp)]
        refine ih _ _ _ (by simpa using hsz) (by rw [hS]; exact closed_plus hcl hrd) (by rw [hS]; exact hcnt) ?_
        rw [hS]
        refine ⟨μ1, t2, a2.put o.dst undA, hinv, fun x => ?_, ra.put hdst rel_undef, fun t => ?_, (put_sz _ _ _).1.trans hsz2, (put_sz _ _ _).2.trans hds2, lat⟩
        · rw [hh x]
          exact ((tr.plusH hcl hlt hn x).2 (fun ⟨v', F', hx, _⟩ => by rw [hrc] at hx; cases hx)).symm
        · rw [put_at, tr.plusE hcl hlt hn ho t, hat t]
          unfold valAt; rw [hrc]
      · have hw' : Region.wanted o (yielded ops ca.tmps) = true := wantA_ok ra ((wantA_congr hread).symm.trans hw)
        rw [if_pos hw']
        refine .inl ?_
        have hop : opE tb call (aS i) o .pure = opE tb call a2 o .pure := opE_congr fun t ht => hread t (by unfold lookT; rw [List.mem_append]; exact .inl ht)
        have fr := E.frame (opE tb call (aS i) o .pure) (tS i) (cS i) (cS i) Foot.empty (by rw [hrun]; exact fun r hr => ⟨_, List.mem_singleton.1 hr, trivial⟩) (Nat.le_refl _) Foot.ok_empty t2
          (fun q hq x hx => by
            rw [hrun] at hq
            have := List.mem_singleton.1 hq
            simp only [Option.some.injEq] at this
            subst this
            rw [hh x]; exact tr.readH hcl hlt hrd hn hrc hx) (fun x hx1 hx2 => by omega)
        rw [hrun, hop] at fr
        obtain ⟨p, hp, lk⟩ : ∃ p, (opE tb call a2 o .pure).run t2 (cS i) (cS i) Foot.empty = [some p] ∧ Like (cS i) t2 (v, tS (i + 1), cS (i + 1), F) p := by
          generalize (opE tb call a2 o .pure).run t2 (cS i) (cS i) Foot.empty = l at fr
          cases fr with
          | cons lk tl => cases tl; exact ⟨_, rfl, lk⟩
        have hpc : p.2.2.1 = cS (i + 1) := lk.c
        have hup0 : cS 0 ≤ cS i := tr.up (Nat.zero_le _) (Nat.le_of_lt hlt)
        have hupN : cS (i + 1) ≤ cS ops.toList.length := tr.up hlt (Nat.le_refl _)
        have s : St σ B w0 (fun q => q = p) (cS (i + 1)) (opE tb call a2 o .pure) (cS i) μ1 t2 (cS i) Foot.empty w :=
          ⟨by rw [hp]; exact fun r hr => ⟨p, List.mem_singleton.1 hr, rfl⟩, hinv, fun x hx1 hx2 => by
            rw [hh x]; exact tr.freshH hcl hlt hn hrc ⟨hx1, hx2⟩ (h0 x (by omega) (by omega)), Nat.le_refl _, Foot.ok_empty⟩
        have hΦ' : ∀ q : Res, q = p → q.2.2.1 ≤ cS (i + 1) := fun q e => by rw [e, hpc]; exact Nat.le_refl _
        refine op_ok ok hσ hΦ' (hcall _ _ hΦ') s ra fun v1 t1 c1 F1 μ2 w2 u s2 lt r2 => ?_
        obtain ⟨q, e1, e2⟩ := s2.run (some (v1, t1, c1, F1)) (by rw [run_pure]; exact List.mem_singleton.2 rfl)
        simp only [Option.some.injEq] at e1
        subst e1
        subst e2
        have ev : v1 = v := lk.v
        have ec : c1 = cS (i + 1) := lk.c
        subst ev
        refine ih _ _ _ (by simpa using hsz) (by rw [hS]; exact closed_plus hcl hrd) (by rw [hS]; exact hcnt) ?_
        rw [hS]
        refine ⟨μ2, t1, a2.put o.dst v1, s2.inv, fun x => ?_, (ra.mono lt.ext).put hdst r2, fun t => ?_, (put_sz _ _ _).1.trans hsz2, (put_sz _ _ _).2.trans hds2, ⟨lat.up, fun x p hp => lt.ext x p (lat.ext x p hp), fun x hx => ?_⟩⟩
        · by_cases hx : ∃ v F, rc i = some (v, F) ∧ (F.wrote x ∨ (cS i ≤ x ∧ x < cS (i + 1)))
          · rw [(tr.plusH hcl hlt hn x).1 hx]
            obtain ⟨v', F', h1', hx⟩ := hx
            rw [hrc] at h1'
            simp only [Option.some.injEq, Prod.mk.injEq] at h1'
            obtain ⟨rfl, rfl⟩ := h1'
            rcases hx with hx | hx
            · exact lk.has x (Foot.wrote_has hx)
            · exact lk.mid x hx.1 hx.2
          · rw [(tr.plusH hcl hlt hn x).2 hx, ← hh x]
            exact lk.same x (fun hw => hx ⟨v1, F, hrc, .inl hw⟩) (fun hr => hx ⟨v1, F, hrc, .inr hr⟩)
        · rw [put_at, tr.plusE hcl hlt hn ho t, hat t]
          unfold valAt; rw [hrc]
        · rw [lt.same x (fun hx' => hx ⟨by omega, by omega⟩), lat.same x hx]
theorem hs_none {S : Nat → Bool} (hS : ∀ i, S i = false) : ∀ (m x : Nat), hs tS cS rc S m x = (tS 0).look x
  | 0, x => rfl
  | m + 1, x => by
    simp only [hs]
    rw [if_neg (fun h => by rw [hS m] at h; exact absurd h.1 (by simp)), hs_none hS m x]
theorem es_none {all : List Oper} {S : Nat → Bool} (hS : ∀ i, S i = false) : ∀ (m t : Nat), es aS all rc S m t = (aS 0).at t
  | 0, t => rfl
  | m + 1, t => by
    simp only [es]
    rw [if_neg (fun h => by rw [hS m] at h; exact absurd h.1 (by simp)), es_none hS m t]
/-- A region whose order is drawn. -/
theorem regD_ok (ok : TabOk P tb) (hσ : Syms σ) (hΦ : ∀ q, Φ q → q.2.2.1 ≤ cE) (hcall : ∀ (Φ : Res → Prop) (cE : Nat), (∀ q, Φ q → q.2.2.1 ≤ cE) → CallOk P σ B w0 Φ cE call) {ops : Array Oper} (hreg : regOk ops.toList = true) {k : AAct → E}
    (s : St σ B w0 Φ cE (regD (opE tb call) ops.toList ops.toList 0 a [] k) b μ t c F w) (ra : ActRel σ μ a ca) {Q : Exit → Act → World → Prop}
    (hN : ∀ a' t' c' F' μ' w' ca', St σ B w0 Φ cE (k a') b μ' t' c' F' w' → Later μ c μ' c' → ActRel σ μ' a' ca' → Q .normal ca' w') :
    wpAny P .any ops Q ops.size (Array.replicate ops.size false) ca w := by
  obtain ⟨aS, tS, cS, rc, accN, F', e1, e2, e3, st, hcf, _, hmem, hk, hF', hup⟩ := regD_tr (b := b) (Φ := Φ) ops.toList 0 a t c F [] rfl (Nat.zero_le _) s.run s.ok s.bc
  subst e1
  subst e2
  subst e3
  have tr : Trc tb call ops.toList aS tS cS rc := ⟨fun j o ho => st j o (Nat.zero_le _) ho, fun i j v F v' F' hij hj hi hj' hcl => by
    obtain ⟨pre, post, h1, _, h3⟩ := hmem j v' F' (Nat.zero_le _) hj hj'
    rw [h1] at hcf
    exact clashFree_pair hcf _ (h3 i v F (Nat.zero_le _) hij hi) hcl, hreg⟩
  have hbN : b ≤ cS ops.toList.length := Nat.le_trans s.bc hup
  have hlen : cS ops.toList.length ≤ cE := by
    obtain ⟨q, hq, hp⟩ := hk.some_of (run_ne _ _ _ _ _)
    exact Nat.le_trans (E.keeps _ _ _ _ _ q hq hbN hF').up (hΦ q hp)
  refine regD_any (μ0 := μ) ok hσ hcall tr (fun x h1 h2 => s.fresh x h1 (by omega)) (fun S ca w hS hc => ?_) ops.size _ ca w (by simp) ?_ cnt_le ?_
  · obtain ⟨μ1, t2, a2, hinv, hh, ra2, hat, hsz2, hds2, lat⟩ := hc
    obtain ⟨q1, q2⟩ := tr.allS hS
    have el : t2.look = (tS ops.toList.length).look := by funext x; rw [hh x, q1 x]
    have hz := tr.szS (Nat.le_refl _)
    refine hN (aS ops.toList.length) (tS ops.toList.length) (cS ops.toList.length) F' μ1 w ca ⟨hk, by rw [← el]; exact hinv, fun x h1 h2 => ?_, hbN, hF'⟩ lat ⟨by rw [hz.1, ← hsz2]; exact ra2.size, fun t => ?_, by rw [hz.2, ← hds2]; exact ra2.defers⟩
    · have : ∀ m, m ≤ ops.toList.length → (tS m).look x = (tS 0).look x := by
        intro m
        induction m with
        | zero => intro _; rfl
        | succ m ih =>
          intro hm
          rw [tr.same (by omega), ih (by omega)]
          rintro ⟨v, F, hrc, h⟩
          have hu := tr.up (show m + 1 ≤ ops.toList.length by omega) (Nat.le_refl _)
          have hu1 := tr.up1 (show m < ops.toList.length by omega)
          rcases h with h | h
          · have := (tr.ran (by omega) hrc).2.1 x (Foot.wrote_has h); omega
          · omega
      rw [this _ (Nat.le_refl _)]
      exact s.fresh x (by omega) h2
    · rw [← q2 t, ← hat t]; exact ra2.tmps t
  · intro i o ho hs
    have : (Array.replicate ops.size false).getD i false = false := by simp [Array.getD_eq_getD_getElem?, Array.getElem?_replicate]; split <;> rfl
    have hs : (Array.replicate ops.size false).getD i false = true := hs
    rw [this] at hs; cases hs
  · have hS : ∀ i, (fun i => (Array.replicate ops.size false).getD i false) i = false := fun i => by
      show (Array.replicate ops.size false).getD i false = false
      simp [Array.getD_eq_getD_getElem?, Array.getElem?_replicate]; split <;> rfl
    exact ⟨μ, tS 0, aS 0, s.inv, fun x => (hs_none hS _ x).symm, ra, fun t => (es_none hS _ t).symm, rfl, rfl, ⟨hup, fun _ _ h => h, fun _ _ => rfl⟩⟩
end
end Ev
end

section
namespace Ev
open Go Go.RowKit
set_option linter.unusedVariables false
set_option linter.unusedSimpArgs false
/-- A deferred function that does nothing where nothing panics. -/
def Idle (P : Program) (f : FuncId) : Prop := (∀ us w, (callFunc f us).run P w = .ok (.enter f us) w) ∧
  ∀ us w, CallsD P f us .returning w fun e u w' => (∃ v, e = .returned v) ∧ u = .returning ∧ w'.heap = w.heap ∧ ∀ B w0, Below B w0 w → Below B w0 w'
section
variable {P : Program} {tb : Tab} {σ : Nat → Value} {B : Nat} {w0 : World} {Φ : Res → Prop} {cE : Nat} {b : Nat} {μ : Mu} {t : T AObj} {c : Nat} {F : Foot} {w : World} {a : AAct} {ca : Act}
def FnOk (P : Program) (σ : Nat → Value) (B : Nat) (w0 : World) (Φ : Res → Prop) (cE : Nat) (f : FuncId) (g : List AV → (AV → E) → E) : Prop :=
  ∀ (args : List AV) (us : List Value) (k : AV → E) (b : Nat) (μ : Mu) (t : T AObj) (c : Nat) (F : Foot) (w : World) (N : Value → World → Prop), St σ B w0 Φ cE (g args k) b μ t c F w → RelL σ μ args us → Then σ B w0 Φ cE b k μ c N → Enters P f us w N
/-- The tables tell the program, its deferred calls and its given functions. -/
structure AllOk (P : Program) (tb : Tab) (σ : Nat → Value) (B : Nat) (w0 : World) : Prop where
  base : TabOk P tb
  names : ∀ f fn, tb.fn.look f = some fn → fn.name ≠ "runtime.NumGoroutine"
  idle : ∀ f, tb.idle f = true → Idle P f
  given : ∀ f g, tb.given f = some g → ∀ (Φ : Res → Prop) (cE : Nat), (∀ q, Φ q → q.2.2.1 ≤ cE) → FnOk P σ B w0 Φ cE f g
theorem St.move {e : E} (s : St σ B w0 Φ cE e b μ t c F w) {w' : World} (hb : Below B w0 w → Below B w0 w') (hh : w'.heap = w.heap) : St σ B w0 Φ cE e b μ t c F w' :=
  ⟨s.run, s.inv.still (hb s.inv.below) hh, s.fresh, s.bc, s.ok⟩
/-- A region in the order of the text. -/
theorem regS_ok (ok : TabOk P tb) (hσ : Syms σ) (hΦ : ∀ q, Φ q → q.2.2.1 ≤ cE) {call : FuncId → List AV → (AV → E) → E} (hcall : CallOk P σ B w0 Φ cE call) {ops : Array Oper} {k : AAct → E} {Q : Exit → Act → World → Prop} :
    ∀ (rest : List Oper) (a : AAct) (ca : Act) (μ : Mu) (t : T AObj) (c : Nat) (F : Foot) (w : World), St σ B w0 Φ cE (regS (opE tb call) ops.toList rest a k) b μ t c F w → ActRel σ μ a ca →
      (∀ a' t' c' F' μ' w' ca', St σ B w0 Φ cE (k a') b μ' t' c' F' w' → Later μ c μ' c' → ActRel σ μ' a' ca' → Q .normal ca' w') → wpList P ops Q rest ca w := by
  intro rest
  induction rest with
  | nil => intro a ca μ t c F w s ra hN; exact hN a t c F μ w ca s (Later.refl _ _) ra
  | cons o rest ih =>
    intro a ca μ t c F w s ra hN
    simp only [regS] at s
    obtain ⟨hd, s⟩ := s.when
    cases hw : wantA ops.toList a o with
    | none => rw [hw] at s; exact (St.fail (n := 401) s).elim
    | some wb =>
      rw [hw] at s
      cases wb with
      | false =>
        unfold wpList
        rw [if_neg (by rw [wantA_ok ra hw]; simp)]
        exact ih _ _ μ t c F w s (ra.put hd rel_undef) hN
      | true =>
        unfold wpList
        rw [if_pos (wantA_ok ra hw)]
        refine .inl ?_
        simp only at s
        split at s
        · rename_i cl hop
          split at s
          · rename_i f hcl
            cases hf : evA a f with
            | none => rw [hf] at s; exact (St.fail (n := 410) s).elim
            | some v =>
              rw [hf] at s
              have hr := evA_ok ra hf
              cases v <;> first | (exact (St.fail (n := 410) s).elim) | skip
              rename_i fn f1 m1
              cases fn <;> first | (exact (St.fail (n := 410) s).elim) | skip
              rename_i g
              obtain ⟨f', c', e, r1, r2⟩ := hr
              cases hl : evL a cl.args.toList with
              | none => rw [hl] at s; exact (St.fail (n := 410) s).elim
              | some args =>
                rw [hl] at s
                have hargs := evL_arr ra hl
                have hex : (execOp ca.eval o).run P w = .ok (.defer { target := .fn (.func g) c', args := f' ++ cl.args.map ca.eval }) w := by
                  simp only [execOp, hop, resolve, hcl, e, Deferred.ofValue, Sem.run_bind, Sem.run_pure, Result.andThen_ok]
                unfold Oper.wp
                rw [hex, Oper.upon_defer]
                have hdr : DefRel σ μ ((g, appl f1 args m1) :: a.ds) ({ target := .fn (.func g) c', args := f' ++ cl.args.map ca.eval } :: ca.defers) := by
                  refine ⟨_, _, c', rfl, rfl, ?_, ra.defers⟩
                  have := appl_rel r1 hargs r2
                  simpa using this
                have ra2 : ActRel σ μ { a with ds := (g, appl f1 args m1) :: a.ds } { ca with defers := { target := .fn (.func g) c', args := f' ++ cl.args.map ca.eval } :: ca.defers } := ⟨ra.size, ra.tmps, hdr⟩
                exact ih _ _ μ t c F w s (ra2.put hd rel_undef) hN
          · exact (St.fail (n := 411) s).elim
        · exact op_ok ok hσ hΦ hcall s ra fun v t1 c1 F1 μ1 w1 u s1 lt r => ih _ _ μ1 t1 c1 F1 w1 s1 ((ra.mono lt.ext).put hd r) fun a' t' c' F' μ' w' ca' s' lt' ra' => hN a' t' c' F' μ' w' ca' s' (lt.trans lt') ra'
theorem loadVar_ok (ok : TabOk P tb) {ty : TypeId} {v : AV} {u : Value} {k : AV → E} (s : St σ B w0 Φ cE (loadE tb ty v k) b μ t c F w) (hu : Rel σ μ v u) :
    ∃ ad r u' F', (asAddr u).run P w = .ok ad w ∧ (loadVar ty ad).run P w = .ok u' w ∧ Rel σ μ r u' ∧ St σ B w0 Φ cE (k r) b μ t c F' w := by
  cases v with
  | ptr q =>
    cases q with
    | none => exact (St.fail (n := 110) s).elim
    | some q =>
      obtain ⟨x, off⟩ := q
      obtain ⟨p, hp, rfl⟩ := hu
      simp only [loadE] at s
      cases e : isAggA tb ty with
      | none => rw [e] at s; exact (St.fail (n := 109) s).elim
      | some ag =>
        rw [e] at s
        cases ag with
        | true =>
          obtain ⟨n, hn, s⟩ := St.opt s
          obtain ⟨cs, F', s, hl, hc⟩ := St.read s
          obtain ⟨vs, hvs, hv⟩ := hc p hp
          exact ⟨_, .agg cs, .agg vs.toArray, F', rfl, run_loadVar_agg ok e hn (by rw [hvs.len, hl]) fun j v h => (hv j v h).1, ⟨_, rfl, by simpa using hvs⟩, s⟩
        | false =>
          obtain ⟨cs, F', s, hl, hc⟩ := St.read s
          obtain ⟨vs, hvs, hv⟩ := hc p hp
          cases cs with
          | nil => simp at hl
          | cons c1 cs =>
            cases cs with
            | cons c2 cs => simp at hl
            | nil =>
              obtain ⟨v, rfl, hr⟩ := hvs.one_inv
              exact ⟨_, _, v, F', rfl, run_loadVar_cell ok e (by simpa using (hv 0 v rfl).1), hr, s⟩
  | _ => exact (St.fail (n := 110) s).elim
def resF (tmps : Array Value) : ResultVar → Sem Value
  | .tmp t => pure (tmps.getD t undef)
  | .cell a t => do loadVar t (← asAddr (tmps.getD a undef))
theorem resL_ok (ok : TabOk P tb) {tmps : Array Value} (hrel : ∀ t, Rel σ μ (a.at t) (tmps.getD t undef)) : ∀ (rs : List ResultVar) (K : List AV → E) (F : Foot), St σ B w0 Φ cE (resL tb a rs K) b μ t c F w →
    ∃ us vs F', (rs.mapM (resF tmps)).run P w = .ok us w ∧ RelL σ μ vs us ∧ St σ B w0 Φ cE (K vs) b μ t c F' w
  | [], K, F, s => ⟨[], [], F, by simp, RelL.nil, s⟩
  | .tmp x :: rs, K, F, s => by
    obtain ⟨us, vs, F', h1, h2, h3⟩ := resL_ok ok hrel rs (fun vs => K (a.at x :: vs)) F s
    refine ⟨tmps.getD x undef :: us, a.at x :: vs, F', ?_, RelL.cons (hrel x) h2, h3⟩
    rw [List.mapM_cons]
    simp only [resF, Sem.run_bind, Sem.run_pure, Result.andThen_ok, h1]
  | .cell x ty :: rs, K, F, s => by
    obtain ⟨ad, r, u', F1, h1, h2, h3, s⟩ := loadVar_ok ok (k := fun v => resL tb a rs fun vs => K (v :: vs)) s (hrel x)
    obtain ⟨us, vs, F', g1, g2, g3⟩ := resL_ok ok hrel rs (fun vs => K (r :: vs)) F1 s
    refine ⟨u' :: us, r :: vs, F', ?_, RelL.cons h3 g2, g3⟩
    rw [List.mapM_cons]
    simp only [resF, Sem.run_bind, Sem.run_pure, Result.andThen_ok, h1, h2, g1]
theorem tuple_rel {vs : List AV} {us : List Value} (h : RelL σ μ vs us) : Rel σ μ (tupleOf vs) (if h : us.toArray.size = 1 then us.toArray[0] else .tuple us.toArray) := by
  cases vs with
  | nil =>
    have : us = [] := h
    subst this
    exact ⟨#[], rfl, rfl⟩
  | cons v vs =>
    cases vs with
    | nil =>
      obtain ⟨u, rfl, hr⟩ := h.one_inv
      exact hr
    | cons v2 vs =>
      have hl := h.len
      rw [dif_neg (by simp [hl])]
      exact ⟨_, rfl, by simpa using h⟩
theorem results_ok (ok : TabOk P tb) {fn : Func} {tmps : Array Value} (hrel : ∀ t, Rel σ μ (a.at t) (tmps.getD t undef)) {k : AV → E} (s : St σ B w0 Φ cE (resL tb a fn.results.toList fun vs => k (tupleOf vs)) b μ t c F w) :
    ∃ v r F', (results fn tmps).run P w = .ok v w ∧ Rel σ μ r v ∧ St σ B w0 Φ cE (k r) b μ t c F' w := by
  obtain ⟨us, vs, F', h1, h2, h3⟩ := resL_ok ok hrel _ _ _ s
  refine ⟨_, _, F', ?_, tuple_rel h2, h3⟩
  have e : results fn tmps = (do let vs ← fn.results.mapM (resF tmps); pure (if h : vs.size = 1 then vs[0] else .tuple vs)) := rfl
  rw [e, Array.mapM_eq_mapM_toList]
  simp only [Sem.run_bind, Sem.run_map, h1, Result.andThen_ok, Sem.run_pure]
theorem act0 {args : List AV} {us : List Value} (h : RelL σ μ args us) (n : Nat) : ActRel σ μ ⟨max args.length n, T.ofL args 0 .leaf, []⟩ { tmps := us.toArray ++ Array.replicate (n - us.toArray.size) undef, defers := [] } := by
  have hl := h.len
  refine ⟨?_, fun t => ?_, rfl⟩
  · show (us.toArray ++ Array.replicate (n - us.toArray.size) undef).size = max args.length n
    simp only [Array.size_append, List.size_toArray, Array.size_replicate]
    omega
  · rw [at_eq, Array.getD_eq_getD_getElem?]
    show Rel σ μ (((T.ofL args 0 .leaf).look t).getD undA) _
    rw [T.look_ofL0, Array.getElem?_append]
    cases e : args[t]? with
    | some x =>
      obtain ⟨v, hv, hr⟩ := h.get t x e
      have hlt : t < us.length := (List.getElem?_eq_some_iff.1 hv).1
      rw [if_pos (by simpa using hlt)]
      simpa [hv] using hr
    | none =>
      have hge : args.length ≤ t := List.getElem?_eq_none_iff.1 e
      rw [if_neg (by simp; omega)]
      have : ((Array.replicate (n - us.toArray.size) undef)[t - us.toArray.size]?).getD undef = undef := by
        rw [Array.getElem?_replicate]; split <;> rfl
      rw [this]; exact rel_undef
/-- The end of a function: its deferred calls do nothing, and its results are told. -/
theorem leave_ok (ok : AllOk P tb σ B w0) {fn : Func} {a' : AAct} {tmps : Array Value} (hrel : ∀ t, Rel σ μ (a'.at t) (tmps.getD t undef)) {k : AV → E} {N : Value → World → Prop} (hN : Then σ B w0 Φ cE b k μ c N) :
    ∀ (ds : List (FuncId × List AV)) (l : List Deferred) (w : World), DefRel σ μ ds l → ds.all (fun d => tb.idle d.1) = true → St σ B w0 Φ cE (resL tb a' fn.results.toList fun vs => k (tupleOf vs)) b μ t c F w →
      Leaves P fn tmps (fun e w' => ∃ v, e = .returned v ∧ N v w') l .returning w
  | [], l, w, hd, _, s => by
    have : l = [] := hd
    subst this
    obtain ⟨v, r, F', h1, h2, h3⟩ := results_ok ok.base hrel s
    exact ⟨v, h1, v, rfl, hN.now h3 h2⟩
  | d :: ds, l, w, hd, hi, s => by
    obtain ⟨f, fs, cap, rfl, h1, h2, h3⟩ := hd
    rw [List.all_cons, Bool.and_eq_true] at hi
    obtain ⟨i1, i2⟩ := ok.idle d.1 hi.1
    refine ⟨by simp, .func d.1, cap, d.1, f.args ++ cap, h1, by rw [h1]; exact i1 _ _, fun cf cs hm => ?_⟩
    obtain ⟨e, u', w', fr, ⟨⟨v, hv⟩, hu, hh, hb⟩, rest⟩ := i2 (f.args ++ cap) w cf cs hm
    subst hv
    subst hu
    exact ⟨_, _, w', fr, leave_ok ok hrel hN ds fs w' h3 hi.2 (s.move (hb B w0) hh), rest⟩
def exOf : Ex → Exit
  | .normal => .normal
  | .ret => .ret
  | .exit id => .exit id
def SOk (P : Program) (tb : Tab) (σ : Nat → Value) (B : Nat) (w0 : World) (n : Nat) : Prop :=
  ∀ (Φ : Res → Prop) (cE : Nat), (∀ q, Φ q → q.2.2.1 ≤ cE) → ∀ (x : Code) (a : AAct) (ca : Act) (k : Ex → AAct → E) (b : Nat) (μ : Mu) (t : T AObj) (c : Nat) (F : Foot) (w : World) (Q : Exit → Act → World → Prop),
    St σ B w0 Φ cE (codeE tb n x a k) b μ t c F w → ActRel σ μ a ca →
    (∀ e a' ca' t' c' F' μ' w', St σ B w0 Φ cE (k e a') b μ' t' c' F' w' → Later μ c μ' c' → ActRel σ μ' a' ca' → Q (exOf e) ca' w') → x.wp P Q ca w
def LOk (P : Program) (tb : Tab) (σ : Nat → Value) (B : Nat) (w0 : World) (n : Nat) : Prop :=
  ∀ (Φ : Res → Prop) (cE : Nat), (∀ q, Φ q → q.2.2.1 ≤ cE) → ∀ (x : Code) (a : AAct) (ca : Act) (k : Ex → AAct → E) (b : Nat) (μ : Mu) (t : T AObj) (c : Nat) (F : Foot) (w : World) (Q : Exit → Act → World → Prop),
    St σ B w0 Φ cE (codeE tb n (.loop x) a k) b μ t c F w → ActRel σ μ a ca →
    (∀ e a' ca' t' c' F' μ' w', St σ B w0 Φ cE (k e a') b μ' t' c' F' w' → Later μ c μ' c' → ActRel σ μ' a' ca' → Q (exOf e) ca' w') → Code.rounds P x Q n ca w
theorem call_ok (ok : AllOk P tb σ B w0) {n : Nat} (hS : SOk P tb σ B w0 n) (Φ : Res → Prop) (cE : Nat) (hΦ : ∀ q, Φ q → q.2.2.1 ≤ cE) : CallOk P σ B w0 Φ cE (callE tb (codeE tb n)) := by
  intro f args us k b μ t c F w N s ra hN
  simp only [callE] at s
  cases hg : tb.given f with
  | some g => rw [hg] at s; exact ok.given f g hg Φ cE hΦ args us k b μ t c F w N s ra hN
  | none =>
    rw [hg] at s
    cases hf : tb.fn.look f with
    | none => rw [hf] at s; exact (St.fail (n := 503) s).elim
    | some fn =>
      rw [hf] at s
      simp only at s
      cases hb : fn.body with
      | none => rw [hb] at s; exact (St.fail (n := 502) s).elim
      | some code =>
        rw [hb] at s
        have hfn := ok.base.fn f fn hf
        refine .inr ⟨?_, calls_of_wp_defers hfn hb ?_⟩
        · simp [callFunc, hfn, hb, ok.names f fn hf]
        · refine hS Φ cE hΦ code _ _ _ b μ t c F w _ s (act0 ra fn.ntmps) fun e a' ca' t' c' F' μ' w' s' lt ra' => ?_
          have fin : St σ B w0 Φ cE (bif a'.ds.all (fun d => tb.idle d.1) then resL tb a' fn.results.toList fun vs => k (tupleOf vs) else .fail 501) b μ' t' c' F' w' → Leaves P fn ca'.tmps (fun e w' => ∃ v, e = .returned v ∧ N v w') ca'.defers .returning w' := fun s' => by
            obtain ⟨hi, s'⟩ := s'.when
            exact leave_ok ok ra'.tmps (fun v t1 c1 F1 μ1 w1 u s1 lt1 r => hN v t1 c1 F1 μ1 w1 u s1 (lt.trans lt1) r) a'.ds ca'.defers w' ra'.defers hi s'
          cases e with
          | normal => exact fin s'
          | ret => exact fin s'
          | exit id => exact (St.fail (n := 500) s').elim
theorem code_ok (ok : AllOk P tb σ B w0) (hσ : Syms σ) : ∀ n, SOk P tb σ B w0 n ∧ LOk P tb σ B w0 n := by
  intro n
  induction n with
  | zero => exact ⟨fun Φ cE hΦ x a ca k b μ t c F w Q s => (St.fail (n := 600) s).elim, fun Φ cE hΦ x a ca k b μ t c F w Q s => (St.fail (n := 600) s).elim⟩
  | succ n ih =>
    obtain ⟨hS, hL⟩ := ih
    have hLs : LOk P tb σ B w0 (n + 1) := fun Φ cE hΦ x a ca k b μ t c F w Q s ra hN => by
      simp only [codeE] at s
      rw [rounds_succ]
      refine hS Φ cE hΦ x a ca _ b μ t c F w _ s ra fun e a' ca' t' c' F' μ' w' s' lt ra' => ?_
      cases e with
      | normal => exact hL Φ cE hΦ x a' ca' k b μ' t' c' F' w' Q s' ra' fun e a2 ca2 t2 c2 F2 μ2 w2 s2 lt2 ra2 => hN e a2 ca2 t2 c2 F2 μ2 w2 s2 (lt.trans lt2) ra2
      | ret => exact hN .ret a' ca' t' c' F' μ' w' s' lt ra'
      | exit id => exact hN (.exit id) a' ca' t' c' F' μ' w' s' lt ra'
    refine ⟨fun Φ cE hΦ x a ca k b μ t c F w Q s ra hN => ?_, hLs⟩
    cases x with
    | skip => exact wp_skip (hN .normal a ca t c F μ w s (Later.refl _ _) ra)
    | label l => exact wp_label (hN .normal a ca t c F μ w s (Later.refl _ _) ra)
    | seq x y =>
      simp only [codeE] at s
      refine wp_seq (hS Φ cE hΦ x a ca _ b μ t c F w _ s ra fun e a' ca' t' c' F' μ' w' s' lt ra' => ?_)
      cases e with
      | normal => exact hS Φ cE hΦ y a' ca' k b μ' t' c' F' w' Q s' ra' fun e a2 ca2 t2 c2 F2 μ2 w2 s2 lt2 ra2 => hN e a2 ca2 t2 c2 F2 μ2 w2 s2 (lt.trans lt2) ra2
      | ret => exact hN .ret a' ca' t' c' F' μ' w' s' lt ra'
      | exit id => exact hN (.exit id) a' ca' t' c' F' μ' w' s' lt ra'
    | cond q x y =>
      simp only [codeE] at s
      cases hq : evA a q with
      | none => rw [hq] at s; exact (St.fail (n := 601) s).elim
      | some v =>
        rw [hq] at s
        cases v <;> first | (exact (St.fail (n := 601) s).elim) | skip
        have hr := evA_ok ra hq
        rename_i bq
        have hr : ca.eval q = .bool bq := hr
        cases bq with
        | true => exact wp_cond_true hr (hS Φ cE hΦ x a ca k b μ t c F w Q s ra hN)
        | false => exact wp_cond_false hr (hS Φ cE hΦ y a ca k b μ t c F w Q s ra hN)
    | block id x =>
      simp only [codeE] at s
      refine wp_block (hS Φ cE hΦ x a ca _ b μ t c F w _ s ra fun e a' ca' t' c' F' μ' w' s' lt ra' => ?_)
      cases e with
      | normal => exact hN .normal a' ca' t' c' F' μ' w' s' lt ra'
      | ret => exact hN .ret a' ca' t' c' F' μ' w' s' lt ra'
      | exit j =>
        show if j = id then Q .normal ca' w' else Q (.exit j) ca' w'
        simp only at s'
        by_cases e : j = id
        · rw [if_pos e]
          rw [show Nat.beq j id = true by rw [Nat.beq_eq]; exact e] at s'
          exact hN .normal a' ca' t' c' F' μ' w' s' lt ra'
        · rw [if_neg e]
          rw [beq_no e] at s'
          exact hN (.exit j) a' ca' t' c' F' μ' w' s' lt ra'
    | loop x => exact wp_loop_rounds (n + 1) (hLs Φ cE hΦ x a ca k b μ t c F w Q s ra hN)
    | scope x =>
      simp only [codeE] at s
      refine wp_scope_straight (hS Φ cE hΦ x a ca k b μ t c F w _ s ra fun e a' ca' t' c' F' μ' w' s' lt ra' => ?_)
      have := hN e a' ca' t' c' F' μ' w' s' lt ra'
      cases e <;> exact this
    | exit id => exact wp_exit (hN (.exit id) a ca t c F μ w s (Later.refl _ _) ra)
    | ret => exact wp_ret (hN .ret a ca t c F μ w s (Later.refl _ _) ra)
    | region id ops draw =>
      simp only [codeE] at s
      cases draw with
      | true =>
        obtain ⟨hreg, s⟩ := St.when (n := 602) s
        refine wp_region_any ok.base.mixed (regD_ok ok.base hσ hΦ (call_ok ok hS) hreg (s.move (w' := { w with drawn := w.drawn + 1 }) (fun h => h.drew) rfl) ra fun a' t' c' F' μ' w' ca' s' lt ra' => hN .normal a' ca' t' c' F' μ' w' s' lt ra')
      | false => exact wp_region_list (regS_ok ok.base hσ hΦ (call_ok ok hS Φ cE hΦ) ops.toList a ca μ t c F w s ra fun a' t' c' F' μ' w' ca' s' lt ra' => hN .normal a' ca' t' c' F' μ' w' s' lt ra')
    | _ => exact (St.fail (n := 603) s).elim
end
end Ev
end

section
namespace Ev
open Go Go.RowKit
set_option linter.unusedVariables false
set_option linter.unusedSimpArgs false
section
variable {P : Program} {tb : Tab} {σ : Nat → Value} {B : Nat} {w0 : World} {Φ : Res → Prop} {cE : Nat} {b : Nat} {μ : Mu} {h : Hp} {t : T AObj} {c : Nat} {F : Foot} {w w' : World} {a : AAct} {ca : Act}
/-- A world in which all that lay before lies as it did. -/
theorem Inv.later (I : Inv σ B w0 μ h w) (hb : Below w.heap.size w w') : Inv σ B w0 μ h w' :=
  ⟨I.hB, I.below.trans (hb.mono (Nat.le_trans I.hB I.below.size)), fun x p hp => ⟨(I.base x p hp).1, Nat.lt_of_lt_of_le (I.base x p hp).2 hb.size⟩, I.dom, I.tag,
    fun x o hx hl => let ⟨p, hp, ho⟩ := I.obj x o hx hl; ⟨p, hp, ho.move (fun _ _ h => h) (hb.block p.b (I.base x p hp).2)⟩, I.apart, I.grp⟩
/-- A new object, in a block that has no name yet. -/
theorem Inv.fresh (I : Inv σ B w0 μ h w) {c : Nat} (hhc : h c = none) {o : AObj} (hlo : ∀ h, LiveO h o) (hgo : grpOf o = none) (hng : ∀ l, o ≠ .grp l) {q : Place} (hBq : B ≤ q.b) (hqb : q.b < w.heap.size) (hne : ∀ x p, μ x = some p → p.b ≠ q.b)
    (ho : ObjAt σ (upd μ c q) w q o) : Inv σ B w0 (upd μ c q) (upd h c o) w := by
  have hc := I.unmapped hhc
  have hext : Ext μ (upd μ c q) := fun x p hp => by
    rw [upd_ne]
    · exact hp
    · rintro rfl; rw [hc] at hp; cases hp
  have lv : ∀ y oy, y ≠ c → upd h c o y = some oy → LiveO (upd h c o) oy → h y = some oy ∧ LiveO h oy := fun y oy hy h1 h2 => by
    rw [upd_ne _ _ hy] at h1
    refine ⟨h1, ?_⟩
    cases oy with
    | row cs g =>
      cases g with
      | none => trivial
      | some g =>
        obtain ⟨l, hl⟩ := h2
        by_cases e : g = c
        · subst e; rw [upd_same] at hl; cases hl; exact (hng _ rfl).elim
        · rw [upd_ne _ _ e] at hl; exact ⟨l, hl⟩
    | grp l => exact h2
    | dead => exact h2
    | _ => trivial
  refine ⟨I.hB, I.below, fun x p hp => ?_, fun x p hp => ?_, fun x cs g hx => ?_, fun x ox hx hl => ?_, fun x y p r ox oy hxy hp hr hx hy lx ly hb => ?_, fun g l z csz csl pz pl h1 h2 h3 hz hl hb => ?_⟩
  · by_cases e : x = c
    · subst e; rw [upd_same] at hp; cases hp; exact ⟨hBq, hqb⟩
    · rw [upd_ne _ _ e] at hp; exact I.base x p hp
  · by_cases e : x = c
    · subst e; rw [upd_same]; simp
    · rw [upd_ne _ _ e] at hp; exact upd_some (I.dom x p hp)
  · by_cases e : x = c
    · subst e; rw [upd_same] at hx; cases hx; cases hgo
    · rw [upd_ne _ _ e] at hx; exact upd_some (I.tag x cs g hx)
  · by_cases e : x = c
    · subst e; rw [upd_same] at hx; cases hx; exact ⟨_, upd_same .., ho⟩
    · obtain ⟨h1, h2⟩ := lv x ox e hx hl
      obtain ⟨p, hp, hob⟩ := I.obj x ox h1 h2
      exact ⟨p, hext _ _ hp, hob.move hext rfl⟩
  · by_cases e : x = c
    · subst e
      rw [upd_same] at hp; cases hp
      rw [upd_ne _ _ (Ne.symm hxy)] at hr
      exact (hne y r hr hb.symm).elim
    · by_cases e' : y = c
      · subst e'
        rw [upd_same] at hr; cases hr
        rw [upd_ne _ _ e] at hp
        exact (hne x p hp hb).elim
      · obtain ⟨h1, h2⟩ := lv x ox e hx lx
        obtain ⟨h3, h4⟩ := lv y oy e' hy ly
        rw [upd_ne _ _ e] at hp
        rw [upd_ne _ _ e'] at hr
        exact I.apart x y p r ox oy hxy hp hr h1 h3 h2 h4 hb
  · have eg : g ≠ c := by rintro rfl; rw [upd_same] at h1; cases h1; exact hng _ rfl
    have ez : z ≠ c := by rintro rfl; rw [upd_same] at h2; cases h2; cases hgo
    have el : l ≠ c := by rintro rfl; rw [upd_same] at h3; cases h3; cases hgo
    rw [upd_ne _ _ eg] at h1; rw [upd_ne _ _ ez] at h2 hz; rw [upd_ne _ _ el] at h3 hl
    exact I.grp g l z csz csl pz pl h1 h2 h3 hz hl hb
/-- A new row, made by a call that turns nothing. -/
theorem St.newAt (hΦ : ∀ q, Φ q → q.2.2.1 ≤ cE) {o : AObj} {k : Nat → E} (s : St σ B w0 Φ cE (.new o k) b μ t c F w) (hlo : ∀ h, LiveO h o) (hgo : grpOf o = none) (hng : ∀ l, o ≠ .grp l) (hb : Below w.heap.size w w') {q : Place} (hq : w.heap.size ≤ q.b) (hqb : q.b < w'.heap.size)
    (ho : ∀ μ1, Ext μ μ1 → ObjAt σ μ1 w' q o) : ∃ μ1, Later μ c μ1 (c + 1) ∧ μ1 c = some q ∧ St σ B w0 Φ cE (k c) b μ1 (t.put o c) (c + 1) F w' := by
  obtain ⟨hlt, hn, s'⟩ := St.new hΦ s
  have hμ := s.inv.unmapped hn
  have hext : Ext μ (upd μ c q) := fun x p hp => by
    rw [upd_ne]
    · exact hp
    · rintro rfl; rw [hμ] at hp; cases hp
  have hBw : B ≤ w.heap.size := Nat.le_trans s.inv.hB s.inv.below.size
  refine ⟨upd μ c q, ⟨by omega, hext, fun x hx => upd_ne _ _ (fun e => hx (by omega))⟩, upd_same .., s' _ _ ?_⟩
  exact (s.inv.later hb).fresh hn hlo hgo hng (by omega) hqb (fun x p hp => by have := (s.inv.base x p hp).2; omega) (ho _ hext)
end
theorem inv0 (σ : Nat → Value) (w : World) : Inv σ w.heap.size w (fun _ => none) (T.leaf (α := AObj)).look w :=
  ⟨Nat.le_refl _, Below.refl _ _, fun x p hp => (by cases hp), fun x p hp => (by cases hp), fun x cs g hx => (by cases hx), fun x o hx => (by cases hx), fun x y p q ox oy _ hp => (by cases hp), fun g l z csz csl pz pl h1 => (by cases h1)⟩
/-- The tables of a program, as tries. -/
noncomputable def tabOf (P : Program) (given : FuncId → Option (List AV → (AV → E) → E)) : Tab := { ty := T.ofL P.types.toList 0 .leaf, fn := T.ofL P.funcs.toList 0 .leaf, given := given, idle := fun _ => false, flat := fun t => !(P.stoodInHeld t) && !(P.eqGuardType P.depth t) }
theorem tabOf_ok {P : Program} {given : FuncId → Option (List AV → (AV → E) → E)} (hm : P.follows .mixedOrders = true) (hn : (P.funcs.toList.all fun fn => fn.name != "runtime.NumGoroutine") = true)
    {σ : Nat → Value} {B : Nat} {w0 : World} (hg : ∀ f g, given f = some g → ∀ (Φ : Res → Prop) (cE : Nat), (∀ q, Φ q → q.2.2.1 ≤ cE) → FnOk P σ B w0 Φ cE f g) : AllOk P (tabOf P given) σ B w0 := by
  have hfn : ∀ f fn, (tabOf P given).fn.look f = some fn → P.funcs[f]? = some fn := fun f fn h => by
    have h : (T.ofL P.funcs.toList 0 .leaf).look f = some fn := h
    rw [T.look_ofL0] at h
    rw [← Array.getElem?_toList]; exact h
  refine ⟨⟨fun t i h => ?_, hfn, fun t h => ?_, hm⟩, fun f fn h => ?_, fun f h => ?_, hg⟩
  · have h : (T.ofL P.types.toList 0 .leaf).look t = some i := h
    rw [T.look_ofL0] at h
    rw [Array.getElem?_toList] at h
    have hlt : t < P.types.size := (Array.getElem?_eq_some_iff.1 h).1
    rw [← h]
    unfold Tables.info?; rw [if_pos hlt]
  · have h : (!(P.stoodInHeld t) && !(P.eqGuardType P.depth t)) = true := h
    simpa using h
  · have := hfn f fn h
    rw [← Array.getElem?_toList] at this
    have := List.all_eq_true.1 hn fn (List.mem_of_getElem? this)
    simpa using this
  · cases (show false = true from h)
def isT : AV → Bool
  | .bool b => b
  | _ => false
noncomputable def allT (l : Outs) : Bool := @List.rec (Option Res) (fun _ => Bool) true (fun r _ ih => @Option.rec Res (fun _ => Bool) false (fun r => isT r.1 && ih) r) l
theorem allT_all : ∀ (l : Outs), allT l = true → ∃ cE, All (fun q => isT q.1 = true ∧ q.2.2.1 ≤ cE) l
  | [], _ => ⟨0, All.nil⟩
  | none :: l, h => by cases (show false = true from h)
  | some q :: l, h => by
    have h : (isT q.1 && allT l) = true := h
    rw [Bool.and_eq_true] at h
    obtain ⟨cE, hl⟩ := allT_all l h.2
    refine ⟨max q.2.2.1 cE, fun r hr => ?_⟩
    rcases List.mem_cons.1 hr with rfl | hr
    · exact ⟨q, rfl, h.1, Nat.le_max_left _ _⟩
    · obtain ⟨q', e, h1, h2⟩ := hl r hr
      exact ⟨q', e, h1, Nat.le_trans h2 (Nat.le_max_right _ _)⟩
/-- What the plain run answers, the program answers: true, from every world; nothing that lay before is turned. -/
theorem alive_of_run {P : Program} {tb : Tab} {f : FuncId} {fn : Func} {code : Code} (hf : P.funcs[f]? = some fn) (hb : fn.body = some code) (hname : fn.name ≠ "runtime.NumGoroutine") (ok : ∀ (B : Nat) (w0 : World), AllOk P tb (fun _ => .bool false) B w0) {n : Nat}
    (h : allT ((callE tb (codeE tb n) f [] .pure).run .leaf 0 0 Foot.empty) = true) (w : World) : Calls P f #[] w fun e w' => e = .returned (.bool true) ∧ Below w.heap.size w w' := by
  obtain ⟨cE, hall⟩ := allT_all _ h
  have s : St (fun _ => .bool false) w.heap.size w (fun q => isT q.1 = true ∧ q.2.2.1 ≤ cE) cE (callE tb (codeE tb n) f [] .pure) 0 (fun _ => none) .leaf 0 Foot.empty w := ⟨hall, inv0 _ w, fun x _ _ => rfl, Nat.le_refl _, Foot.ok_empty⟩
  have e := call_ok (ok w.heap.size w) (code_ok (ok w.heap.size w) (fun _ => rfl) n).1 _ cE (fun q hq => hq.2) f [] [] .pure 0 _ .leaf 0 Foot.empty w (fun u w1 => u = .bool true ∧ Below w.heap.size w w1) s RelL.nil (fun v t1 c1 F1 μ1 w1 u s1 lt r => by
    obtain ⟨q, e1, e2⟩ := s1.run (some (v, t1, c1, F1)) (by rw [run_pure]; exact List.mem_singleton.2 rfl)
    simp only [Option.some.injEq] at e1
    subst e1
    have ht := e2.1
    cases v <;> first | (cases ht; done) | skip
    rename_i bv
    have hbv : bv = true := ht
    subst hbv
    exact ⟨r, s1.inv.below⟩)
  rcases e with ⟨v, w1, hv, _⟩ | ⟨_, hc⟩
  · simp [callFunc, hf, hb, hname] at hv
  · exact Calls.mono hc fun e w' ⟨v, he, hv, hb⟩ => ⟨by rw [he, hv], hb⟩
end Ev
end

section
/- The keys of a map, by maps.Keys' own function, where the map's variable lies anywhere in its block (after the library's proof for the block's first cell). -/
namespace Ev
open Go Go.Proofs Go.RowKit Go.Maps Go.Sort Go.Shelf
variable {P : Program} {ρ : Ren}
set_option maxRecDepth 100000 in
set_option maxHeartbeats 1000000 in
theorem keysAt_in (L : SlLaysZ.n10 P ρ) {H : Type} (F : Fence) (n : Nat) (h10 : F.fn (ρ.f 10)) (hro : F.round = none) (hn : 1 ≤ n) (l Bm off b nn : Nat) (D0 : DataW H) {R : Value → Option (DataW H × List MemPlace)} (J : List (List UInt8) → World → Prop)
    (hY : ∀ pre x W, J pre W → pre.length < Maps.size D0 → YieldAt F (n - 1) P l #[encStr x] W fun e W' => e = .returned (.bool true) ∧ J (pre ++ [x]) W' ∧ KeepsWalks W W')
    (W : World) (hJ : AbidesFrom W.heap.size J) (hm : W.cell? ⟨Bm, off, none⟩ = some (.map (some b))) (hown : W.ownsMap P (ρ.t 26) R b nn D0) (h0 : J [] W) :
    CallsIn F n P (ρ.f 10) #[.func (.yield l) #[] #[], .pointer (some ⟨Bm, off, none⟩)] W fun e W' => (∃ v, e = .returned v) ∧ ∃ ss : List (List UInt8), ss.Perm (strKeys D0) ∧ J ss W' := by
  have mixed := L.mixed; have t0 := L.t0; have a0 := L.a0; have z0 := L.z0; have v0 := L.v0; have t4 := L.t4; have a4 := L.a4; have z4 := L.z4; have v4 := L.v4; have t23 := L.t23; have a23 := L.a23; have z23 := L.z23; have v23 := L.v23; have t26 := L.t26; have a26 := L.a26; have z26 := L.z26; have v26 := L.v26; have t33 := L.t33; have a33 := L.a33; have z33 := L.z33; have v33 := L.v33
  have u0 := run_underlying L.t0; have u4 := run_underlying L.t4; have u23 := run_underlying L.t23; have u26 := run_underlying L.t26; have u33 := run_underlying L.t33
  obtain ⟨_, _, FG⟩ := L.f10
  refine callsIn_of_wp FG rfl h10 ?_ hro
  simp only [SlBodyZ.n10_ntmps ρ, List.size_toArray, List.length_cons, List.length_nil, Nat.reduceAdd, Nat.reduceSub, Array.replicate_succ, Array.replicate_zero, List.push_toArray, List.append_toArray, List.nil_append, List.cons_append]
  gi_wp2_with (first
    | (gi_at_range; refine wpListIn_range_own _ rfl _ (ρ.t 23) rfl (ρ.t 26) (ρ.t 3) (string_keyed L.t26) L.t23 _ b nn _ rfl hown ?_; intro w0 hrg0 hg0 hs0)
    | gi_in)
  go_frame
  gi_loopw [3] (fun _ wr => ∃ (left : Lit → Bool) (cnt : Nat) (ss : List (List UInt8)), wr.ranges P (ρ.t 26) R b W.heap.size nn D0 left cnt ∧ ss.length + cnt ≤ Maps.size D0 ∧ Collected D0 left ss ∧ J ss wr)
    (fun _ wr => wr.rangeLeft b W.heap.size)
  case atStart =>
    exact ⟨_, _, [], hrg0, by simp, Collected.start D0, hJ [] W w0 none h0 hg0 (fun r e => by cases e)⟩
  case round =>
    obtain ⟨left, cnt, ss, hrg, hcs, hC, hJs⟩ := hrel
    gi_wp2_with (first
      | (gi_at_next; refine wpListIn_next_ranges _ rfl _ rfl (ρ.t 26) (string_keyed L.t26) R encStr id (fun key kl hk => by obtain ⟨x, hx, _⟩ := Maps.keyOf_str L.t26 hk; exact ⟨x, hx⟩) (fun v _ _ => ⟨v, rfl⟩) b W.heap.size nn _ _ _ rfl hrg ?_ ?_)
      | gi_in)
    · intro hc0 hl0
      gi_wp2
      go_end0
      exact ⟨⟨_, rfl⟩, ss, hC.perm hown (string_keyed L.t26) L.t26 hl0, hJs⟩
    · intro x c kl yd yp w2 cnt2 hkey hlk hv hat hrg2 hlt hg2 hs2 hen
      obtain ⟨x', ex, rfl, _⟩ := Maps.keyOf_str L.t26 hkey
      obtain rfl : x = x' := encStr_inj ex
      have hJ2 : J ss w2 := hJ ss wr w2 (some W.heap.size) hJs hg2 (fun r e => by cases e; exact ⟨Nat.le_refl _, hrg.iter_walk⟩)
      obtain ⟨fn, tmps, assign, body, hy, hR⟩ := hY ss x w2 hJ2 (by omega)
      clear hs2
      gi_wp2
      refine hR.mono ?_
      rintro e W3 ⟨rfl, hJ3, hk3⟩
      gi_wp2
      have hrg3 := hrg2.of_walks hk3
      go_roundw
      case rel => exact ⟨_, cnt2, ss ++ [x], hrg3, by simp; omega, hC.step hlk hat, hJ3⟩
      case measure => rw [hrg3.left_eq, hrg.left_eq]; exact hlt
theorem keysAt_gives (L : SlLaysZ.n10 P ρ) {H : Type} (F : Fence) (n : Nat) (h10 : F.fn (ρ.f 10)) (hro : F.round = none) (hn : 1 ≤ n) (Bm off b nn : Nat) (D0 : DataW H) {R : Value → Option (DataW H × List MemPlace)} (w : World) (hBm : Bm < w.heap.size)
    (hm : w.cell? ⟨Bm, off, none⟩ = some (.map (some b))) (hown : w.ownsMap P (ρ.t 26) R b nn D0) :
    SeqGives F n P (ρ.f 10) #[.pointer (some ⟨Bm, off, none⟩)] encStr (fun ss => ss.Perm (strKeys D0)) (Maps.size D0) w := fun l J W hW hJ hY h0 => by
  have hown' : W.ownsMap P (ρ.t 26) R b nn D0 := by
    have hbl := hown.lt
    obtain ⟨es, clock, hb, Ft, hs, hD⟩ := hown
    exact ⟨es, clock, (hW.block b hbl).trans hb, Ft, hs, hD⟩
  exact keysAt_in L F n h10 hro hn l Bm off b nn D0 J hY W hJ ((hW.cell (p := ⟨Bm, off, none⟩) hBm).trans hm) hown' h0
end Ev
end

section
namespace Ev
open Go Go.Proofs Go.RowKit Go.Maps Go.Sort Go.Shelf
set_option linter.unusedVariables false
set_option linter.unusedSimpArgs false
/-- slices.AppendSeq(nil, maps.Keys(m)), where m holds one text and a bool with it. -/
noncomputable def gSeq (f10 : Nat) (args : List AV) (k : AV → E) : E := match args with
  | [.slice none _ _ _, .func (.func h) [] [.ptr (some (x, o))]] => bif Nat.beq h f10 then readE x o 1 fun l => (match l with
      | [.map (some m)] => mapE m fun es ck => (match es with
        | [(.str s, .bool _, born)] => bif Nat.blt s.length 1000000 && Nat.blt born ck then .new (.row [.str s] none) fun c => k (.slice (some (c, 0)) 1 1 none) else .fail 700
        | _ => .fail 701)
      | _ => .fail 702) else .fail 703
  | _ => .fail 704
def anyR (v : Value) : Option (DataW Unit × List MemPlace) := some (.lit (.bool true), [])
section
variable {P : Program} {σ : Nat → Value} {B : Nat} {w0 : World} {Φ : Res → Prop} {cE : Nat} {ρ ρ' : Ren}
theorem own_one {w : World} {b ck : Nat} {k : TypeId} (hk : P.underlying k = some .string) {f : MapEntry} {ba : ByteArray} (hh : w.heap[b]? = some (.map #[f] ck)) (hkey : f.key = .string ba) (hs : ba.size ≤ maxLen) (hb : f.born < ck) :
    w.ownsMap P k anyR b 1 (.map [(.string ba.data.toList, .lit (.bool true))] : DataW Unit) := by
  have hrd : Go.WideElems.rd P k anyR f = some (.string ba.data.toList, .lit (.bool true)) := by
    unfold Go.WideElems.rd
    rw [hkey, Go.WideMaps.keyOf_string_mk hk hs]
    rfl
  refine ⟨#[f], ck, hh, ⟨by simp [maxLen], ⟨fun x hx => ?_, by simp, by simp⟩, fun x hx => ?_⟩, by simp, ?_⟩
  · simp at hx; subst hx; exact hb
  · simp at hx; subst hx; exact ⟨_, hrd⟩
  · simp [Go.WideElems.rg, hrd, DataW.insert]
theorem cells_at {w : World} {g : Nat} {cur : Array Value} {e : TypeId} (h : w.heap[g]? = some (.cells cur e (0, 0))) (i : Nat) (hi : i < cur.size) : w.cell? ⟨g, i, none⟩ = some cur[i] ∧ w.frozen? ⟨g, i, none⟩ = false := by
  constructor <;> simp [World.cell?, World.frozen?, h, hi]
theorem gSeq_ok (L10 : SlLaysZ.n10 P ρ) (L11 : SlLaysZ.n11 P ρ') (hΦ : ∀ q, Φ q → q.2.2.1 ≤ cE) : FnOk P σ B w0 Φ cE (ρ'.f 11) (gSeq (ρ.f 10)) := by
  intro args us k b μ t c F w N s hu hN
  unfold gSeq at s
  split at s
  · rename_i n0 sz0 cap0 h x o
    obtain ⟨hh, sa⟩ := St.when (n := 703) s
    clear s
    have hh : h = ρ.f 10 := by rwa [Nat.beq_eq] at hh
    subst hh
    obtain ⟨cs, F1, s, hl, hc⟩ := St.read sa
    split at s
    · rename_i l m
      obtain ⟨es, ck, q, es', F2, _, ho, hq, hheap, hE, s⟩ := St.map s
      split at s
      · rename_i es0 str bv born
        obtain ⟨hchk, s⟩ := St.when (n := 700) s
        rw [Bool.and_eq_true, Nat.blt_eq, Nat.blt_eq] at hchk
        -- the arguments
        obtain ⟨u0, us1, rfl, h1, h2⟩ := hu
        obtain ⟨u1, rfl, h3⟩ := RelL.one_inv h2
        obtain ⟨_, rfl⟩ := h1
        obtain ⟨f', c', rfl, h4, h5⟩ := h3
        have hf' : f' = #[] := by apply Array.ext'; exact h4
        subst hf'
        obtain ⟨cv, hcv, p, hp, rfl⟩ := RelL.one_inv h5
        have hc' : c' = #[.pointer (some ⟨p.b, p.o + o, none⟩)] := by apply Array.ext'; exact hcv
        subst hc'
        -- the map's variable
        obtain ⟨vs, hvs, hcell⟩ := hc p hp
        obtain ⟨mv, rfl, hmv⟩ := RelL.one_inv hvs
        obtain ⟨q', hq', rfl⟩ := hmv
        rw [hq] at hq'; cases hq'
        have hm := (hcell 0 _ rfl).1
        -- the map's entry
        obtain ⟨f, fs, he, k1, k2, k3, k4⟩ := hE
        have hfs : fs = [] := k4
        subst hfs
        have hes : es' = #[f] := by apply Array.ext'; exact he
        subst hes
        obtain ⟨ba, hkey, hby⟩ := k1
        have hsz : ba.size ≤ maxLen := by
          have : (bytesN ba).length = ba.size := by unfold bytesN; rw [List.length_map, Array.length_toList]; rfl
          rw [hby] at this
          have := hchk.1
          unfold maxLen; omega
        have k3 : f.born = born := k3
        have hown := own_one (P := P) L10.t26 hheap hkey hsz (by rw [k3]; exact hchk.2)
        have hpb := (s.inv.base x p hp).2
        have hseq := keysAt_gives (ρ := ρ) L10 Fence.wide 4 trivial rfl (by omega) p.b (p.o + o) q.b 1 _ w hpb hm hown
        have hcall := (callsIn_wide (n := 5)).1 (AnyZ.appendSeq_in (ρ := ρ') L11 Fence.wide 5 trivial rfl (by omega) (ρ.f 10) #[.pointer (some ⟨p.b, p.o + o, none⟩)] trivial (L10.f10.enters rfl) _ _ (show 1 ≤ maxLen by unfold maxLen; omega) (show 1 * 16 ≤ 140737488355328 by omega) w hseq)
        refine .inr ⟨L11.f11.enters rfl _ _, Calls.mono hcall ?_⟩
        rintro e w' ⟨v, ss, rfl, hS, hrow, hnil, hb⟩
        refine ⟨v, rfl, ?_⟩
        have hss : ss = [ba.data.toList] := by
          have : ss.Perm [ba.data.toList] := hS
          exact List.perm_singleton.1 this
        subst hss
        obtain ⟨_, hr⟩ := hrow
        rcases hr with ⟨_, h0⟩ | ⟨g, cap, cur, rfl, hg, hgb, hr1, hr2, hr3, hr4⟩
        · simp at h0
        · have hgs : g < w'.heap.size := (Array.getElem?_eq_some_iff.1 hgb).1
          simp only [List.length_cons, List.length_nil] at hr1 hr4
          have hcur0 : 0 < cur.size := by omega
          have hcv0 : cur[0] = .string ba := by
            have h0 : (cur.toList.take 1)[0]? = some (encStr ba.data.toList) := by rw [show (0 + 1) * 1 = 1 from rfl] at hr4; rw [hr4]; rfl
            rw [List.getElem?_take_of_lt (by omega), Array.getElem?_toList, Array.getElem?_eq_getElem hcur0] at h0
            simpa [encStr] using h0
          have hrowat : ∀ μ1 : Mu, Ext μ μ1 → RowAt σ μ1 w' ⟨g, 0, cap⟩ [.str str] := fun μ1 hμ => by
            refine ⟨by simpa using hr1, fun i hi => ?_, fun i a ha => ?_⟩
            · have hi : i < cur.size := by have : i < cap := hi; omega
              obtain ⟨h1, h2⟩ := cells_at hgb i hi
              refine ⟨?_, ?_⟩
              · show (w'.cell? ⟨g, 0 + i, none⟩).isSome = true
                rw [Nat.zero_add, h1]; rfl
              · show w'.frozen? ⟨g, 0 + i, none⟩ = false
                rw [Nat.zero_add]; exact h2
            · cases i with
              | zero =>
                simp only [List.getElem?_cons_zero, Option.some.injEq] at ha
                subst ha
                refine ⟨.string ba, ?_, ⟨ba, rfl, hby⟩, rfl⟩
                show w'.cell? ⟨g, 0 + 0, none⟩ = _
                rw [Nat.zero_add, (cells_at hgb 0 hcur0).1, hcv0]
              | succ i => simp at ha
          obtain ⟨μ1, lt, hμc, s1⟩ := St.newAt hΦ s (fun _ => trivial) rfl (fun _ e => by cases e) hb (q := ⟨g, 0, cap⟩) hg hgs hrowat
          exact hN _ _ _ _ _ _ _ s1 lt ⟨⟨g, 0, cap⟩, cap, ⟨g, 0, none⟩, hμc, rfl, by omega, .inr rfl, by simp, fun _ e => by cases e⟩
      · exact (St.fail (n := 701) s).elim
    · exact (St.fail (n := 702) s).elim
  · exact (St.fail (n := 704) s).elim
end
end Ev
end
