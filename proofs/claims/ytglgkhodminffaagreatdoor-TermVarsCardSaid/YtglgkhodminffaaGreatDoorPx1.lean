/- A plain run of a function's loaded form over data that are not known, and that what it answers the program answers: part 1. -/
import Derived.Test.YtglgkhodminffaaGreatDoorPx0
import Derived.Laws.Tables
import Derived.Laws.MakeOwn
import Derived.MapKept
import Derived.Laws.StructEq
import Derived.Laws.IdiomStrings
section
namespace Px
open Go Go.RowKit
set_option linter.unusedVariables false
set_option linter.unusedSimpArgs false
/-- What is known at a point of the plain run: its outs are as wished, its memory tells the world's, the names to come are new. -/
structure St (tb : Tab) (B : Bs) (Φ : Res → Prop) (cE : Nat) (e : E) (b : Nat) (μ : Mu) (t : T AObj) (c : Nat) (F : Foot) (w : World) : Prop where
  run : All Φ (e.run t c b F)
  inv : Inv tb B μ t.look w
  fresh : ∀ x, c ≤ x → x < cE → t.look x = none
  bc : b ≤ c
  ok : F.ok
/-- What has been named since. -/
structure Later (μ : Mu) (c : Nat) (μ1 : Mu) (c1 : Nat) : Prop where
  up : c ≤ c1
  ext : Ext μ μ1
theorem Later.refl (μ : Mu) (c : Nat) : Later μ c μ c := ⟨Nat.le_refl _, Ext.refl μ⟩
theorem Later.trans {μ μ1 μ2 : Mu} {c c1 c2 : Nat} (h : Later μ c μ1 c1) (k : Later μ1 c1 μ2 c2) : Later μ c μ2 c2 := ⟨Nat.le_trans h.up k.up, h.ext.trans k.ext⟩
section
variable {tb : Tab} {B : Bs} {Φ : Res → Prop} {cE : Nat} {b : Nat} {μ : Mu} {t : T AObj} {c : Nat} {F : Foot} {w w' : World}
theorem St.fail {n : Nat} (s : St tb B Φ cE (.fail n) b μ t c F w) : False := (show All Φ [none] from s.run).none
theorem St.with {e e' : E} (s : St tb B Φ cE e b μ t c F w) (h : e = e') : St tb B Φ cE e' b μ t c F w := h ▸ s
theorem St.opt {α : Type} {n : Nat} {o : Option α} {k : α → E} (s : St tb B Φ cE (opt n o k) b μ t c F w) : ∃ a, o = some a ∧ St tb B Φ cE (k a) b μ t c F w := by
  cases o with
  | none => exact (St.fail (n := n) s).elim
  | some a => exact ⟨a, rfl, s⟩
theorem St.when {x : E} {n : Nat} {q : Bool} (s : St tb B Φ cE (bif q then x else .fail n) b μ t c F w) : q = true ∧ St tb B Φ cE x b μ t c F w := by
  cases q with
  | true => exact ⟨rfl, s⟩
  | false => exact (St.fail (n := n) s).elim
theorem St.ite {x y : E} {q : Bool} (s : St tb B Φ cE (.ite q x y) b μ t c F w) : St tb B Φ cE (if q then x else y) b μ t c F w := by
  refine ⟨?_, s.inv, s.fresh, s.bc, s.ok⟩
  have := s.run
  rw [run_ite] at this
  cases q <;> exact this
theorem St.ck {x : E} {n : Nat} {q : Bool} (s : St tb B Φ cE (ck n q x) b μ t c F w) : q = true ∧ St tb B Φ cE x b μ t c F w := by
  have s := St.ite s
  cases q with
  | true => exact ⟨rfl, s⟩
  | false => exact (St.fail (n := n) s).elim
theorem St.get {x : Nat} {k : AObj → E} (s : St tb B Φ cE (.get x k) b μ t c F w) : x < c ∧ ∃ o, t.look x = some o ∧ ∃ F', St tb B Φ cE (k o) b μ t c F' w := by
  have hr := s.run
  rw [run_get] at hr
  by_cases hx : x < c
  · rw [if_pos hx] at hr
    cases e : t.look x with
    | none => rw [e] at hr; exact (All.none hr).elim
    | some o => rw [e] at hr; exact ⟨hx, o, rfl, _, hr, s.inv, s.fresh, s.bc, Foot.ok_touch s.ok _ _ _⟩
  · rw [if_neg hx] at hr; exact (All.none hr).elim
theorem St.set {x : Nat} {o : AObj} {k : E} (s : St tb B Φ cE (.set x o k) b μ t c F w) : x < c ∧ ∃ F', ∀ μ' w', Inv tb B μ' (upd t.look x o) w' → St tb B Φ cE k b μ' (t.put o x) c F' w' := by
  have hr := s.run
  rw [run_set] at hr
  by_cases hx : x < c
  · rw [if_pos hx] at hr
    refine ⟨hx, _, fun μ' w' I => ⟨hr, by rw [look_upd]; exact I, fun y h1 h2 => ?_, s.bc, Foot.ok_touch s.ok _ _ _⟩⟩
    rw [look_upd, upd_ne _ _ (by omega)]; exact s.fresh y h1 h2
  · rw [if_neg hx] at hr; exact (All.none hr).elim
theorem St.new (hΦ : ∀ q, Φ q → q.2.2.1 ≤ cE) {o : AObj} {k : Nat → E} (s : St tb B Φ cE (.new o k) b μ t c F w) : c < cE ∧ t.look c = none ∧ ∀ μ' w', Inv tb B μ' (upd t.look c o) w' → St tb B Φ cE (k c) b μ' (t.put o c) (c + 1) F w' := by
  have hr := s.run
  rw [run_new] at hr
  obtain ⟨q, hq, hp⟩ := hr.some_of (run_ne _ _ _ _ _)
  have k1 : c + 1 ≤ q.2.2.1 := (E.keeps _ _ _ _ _ q hq (Nat.le_succ_of_le s.bc) s.ok).up
  have := hΦ q hp
  have hlt : c < cE := by omega
  have hb := s.bc
  refine ⟨hlt, s.fresh c (Nat.le_refl _) hlt, fun μ' w' I => ⟨hr, by rw [look_upd]; exact I, fun y h1 h2 => ?_, by omega, s.ok⟩⟩
  rw [look_upd, upd_ne _ _ (by omega)]; exact s.fresh y (by omega) h2
/-- Draws turn nothing. -/
theorem St.move {e : E} (s : St tb B Φ cE e b μ t c F w) (hb : Fr B.S B.w w → Fr B.S B.w w') (hh : w'.heap = w.heap) : St tb B Φ cE e b μ t c F w' := ⟨s.run, s.inv.still (hb s.inv.fr) hh, s.fresh, s.bc, s.ok⟩
theorem Fr.drew {S : Nat → Prop} {a w : World} (h : Fr S a w) : Fr S a w.drew := ⟨h.os, h.tape, h.output, h.size, h.block⟩
theorem St.drew {e : E} (s : St tb B Φ cE e b μ t c F w) : St tb B Φ cE e b μ t c F w.drew := s.move Fr.drew rfl
/-- What is to be shown behind an operation's value. -/
def Then (tb : Tab) (B : Bs) (Φ : Res → Prop) (cE : Nat) (b : Nat) (k : AV → E) (μ : Mu) (c : Nat) (N : Value → World → Prop) : Prop :=
  ∀ v t1 c1 F1 μ1 w1 u, St tb B Φ cE (k v) b μ1 t1 c1 F1 w1 → Later μ c μ1 c1 → Rel tb μ1 v u → N u w1
theorem Then.now {k : AV → E} {N : Value → World → Prop} (h : Then tb B Φ cE b k μ c N) {v : AV} {u : Value} (s : St tb B Φ cE (k v) b μ t c F w) (r : Rel tb μ v u) : N u w := h v t c F μ w u s (Later.refl μ c) r
theorem Then.later {k : AV → E} {N : Value → World → Prop} (h : Then tb B Φ cE b k μ c N) {μ1 : Mu} {c1 : Nat} (l : Later μ c μ1 c1) : Then tb B Φ cE b k μ1 c1 N := fun v t1 c2 F1 μ2 w1 u s l2 r => h v t1 c2 F1 μ2 w1 u s (l.trans l2) r
/-- An operation's run: some value, some world, from which all goes on. -/
def Runs (P : Program) (S : Sem Value) (w : World) (N : Value → World → Prop) : Prop := ∃ u w1, S.run P w = .ok u w1 ∧ N u w1
theorem Runs.of {P : Program} {S : Sem Value} {N : Value → World → Prop} {u : Value} {w1 : World} (h : S.run P w = .ok u w1) (hn : N u w1) : Runs P S w N := ⟨u, w1, h, hn⟩
/-- The same where the operation yields nothing. -/
def RunsU (P : Program) (S : Sem Unit) (w : World) (N : Value → World → Prop) : Prop := ∃ w1, S.run P w = .ok () w1 ∧ N undef w1
theorem rel_undef : Rel tb μ undA undef := trivial
def Mu.setSl (μ : Mu) (x n : Nat) (v : Value) : Mu := { μ with sl := fun y m => if y = x ∧ m = n then some v else μ.sl y m }
def Mu.setPl (μ : Mu) (x : Nat) (p : Place) : Mu := { μ with pl := fun y => if y = x then some p else μ.pl y }
/-- Cells that never turn any more. -/
def Mu.addFz (μ : Mu) (bk lo hi : Nat) (w : World) : Mu := { μ with fz := fun b o => if b = bk ∧ lo ≤ o ∧ o < hi then w.cell? ⟨b, o, none⟩ else μ.fz b o }
theorem Ext.setSl {x n : Nat} {v : Value} (h : μ.sl x n = none) : Ext μ (μ.setSl x n v) := ⟨fun _ _ h => h, fun y m u hu => by
  show (if y = x ∧ m = n then some v else μ.sl y m) = some u
  rw [if_neg (fun e => by rw [e.1, e.2, h] at hu; cases hu)]; exact hu, fun _ _ _ h => h⟩
theorem Ext.setPl {x : Nat} {p : Place} (h : μ.pl x = none) : Ext μ (μ.setPl x p) := ⟨fun y q hq => by
  show (if y = x then some p else μ.pl y) = some q
  rw [if_neg (fun e => by rw [e, h] at hq; cases hq)]; exact hq, fun _ _ _ h => h, fun _ _ _ h => h⟩
theorem Ext.addFz {bk lo hi : Nat} (h : ∀ o v, lo ≤ o → o < hi → μ.fz bk o = some v → w.cell? ⟨bk, o, none⟩ = some v) : Ext μ (μ.addFz bk lo hi w) := ⟨fun _ _ h => h, fun _ _ _ h => h, fun b o v hv => by
  show (if b = bk ∧ lo ≤ o ∧ o < hi then w.cell? ⟨b, o, none⟩ else μ.fz b o) = some v
  split
  · rename_i e; obtain ⟨rfl, e2, e3⟩ := e; exact h o v e2 e3 hv
  · exact hv⟩
theorem elemA_ok {P : Program} (ok : TabOk P tb) {ty : TypeId} {p : TypeId × Nat} (h : elemA tb ty = some p) : und tb ty = some (.slice p.1) ∧ P.underlying ty = some (.slice p.1) ∧ szA tb p.1 = some p.2 ∧ 0 < p.2 := by
  unfold elemA at h
  cases e : und tb ty with
  | none => rw [e] at h; cases h
  | some d =>
    rw [e] at h
    cases d <;> first | (cases h; done) | skip
    rename_i el
    simp only at h
    cases e2 : szA tb el with
    | none => rw [e2] at h; cases h
    | some n =>
      rw [e2] at h
      cases n with
      | zero => cases h
      | succ n => simp only [Option.some.injEq] at h; subst h; exact ⟨rfl, und_ok ok e, e2, Nat.succ_pos _⟩
theorem elemA_und {ty : TypeId} {p : TypeId × Nat} (h : elemA tb ty = some p) : und tb ty = some (.slice p.1) ∧ szA tb p.1 = some p.2 ∧ 0 < p.2 := by
  unfold elemA at h
  cases e : und tb ty with
  | none => rw [e] at h; cases h
  | some d =>
    rw [e] at h
    cases d <;> first | (cases h; done) | skip
    rename_i el
    simp only at h
    cases e2 : szA tb el with
    | none => rw [e2] at h; cases h
    | some n =>
      rw [e2] at h
      cases n with
      | zero => cases h
      | succ n => simp only [Option.some.injEq] at h; subst h; exact ⟨rfl, e2, Nat.succ_pos _⟩
/-- A new right to append: over a slice with no room that is known to be its own. -/
theorem St.newVec (hΦ : ∀ q, Φ q → q.2.2.1 ≤ cE) {ty : TypeId} {k : Nat → E} (s : St tb B Φ cE (.new (.vec ty 0) k) b μ t c F w) {A : Option Addr} {n : Nat} {e : TypeId} {sz : Nat} (hel : elemA tb ty = some (e, sz)) (hnil : A = none → n = 0) :
    ∃ μ1, Later μ c μ1 (c + 1) ∧ μ1.sl c 0 = some (.slice A n n) ∧ μ1.fz = μ.fz ∧ St tb B Φ cE (k c) b μ1 (t.put (.vec ty 0) c) (c + 1) F w := by
  obtain ⟨hlt, hn, s'⟩ := St.new hΦ s
  obtain ⟨hp, hs⟩ := s.inv.unmapped hn
  have hext : Ext μ (μ.setSl c 0 (.slice A n n)) := Ext.setSl (hs 0)
  have hsl : (μ.setSl c 0 (.slice A n n)).sl c 0 = some (.slice A n n) := if_pos ⟨rfl, rfl⟩
  refine ⟨_, ⟨by omega, hext⟩, hsl, rfl, s' _ _ ?_⟩
  have hno : ∀ b, ¬ Owns (μ.setSl c 0 (.slice A n n)) (upd t.look c (.vec ty 0)) c b := fun b hb => by
    unfold Owns at hb
    rw [upd_same] at hb
    obtain ⟨o, n', c', h1, h2⟩ := hb
    rw [hsl] at h1
    simp only [Option.some.injEq, Value.slice.injEq] at h1
    omega
  refine s.inv.upd (fun x => x = c) s.inv.fr (Nat.le_refl _) (fun b _ _ => rfl) hext (fun x hx => ⟨rfl, fun m => if_neg (fun e => hx e.1)⟩) (fun _ _ _ hv => .inl hv) (fun b o v hv _ => (s.inv.fz b o v hv).1)
    (fun x hx => upd_ne _ _ hx) (fun x hx => by subst hx; rw [upd_same]; simp) (fun x m v hx hv => ?_) (fun x o hx ho => ?_) (fun x b hx hb => ?_) (fun x y b hx hy hxy => (hxy (hx.trans hy.symm)).elim)
  · subst hx
    refine ⟨ty, 0, upd_same .., ?_⟩
    by_cases e : m = 0
    · omega
    · have : (if x = x ∧ m = 0 then some (Value.slice A n n) else μ.sl x m) = some v := hv
      rw [if_neg (fun h => e h.2), hs m] at this; cases this
  · subst hx
    rw [upd_same] at ho; cases ho
    exact ⟨A, n, n, e, sz, hsl, hel, Nat.le_refl _, fun h => ⟨hnil h, hnil h⟩, fun h => by omega⟩
  · subst hx; exact (hno b hb).elim
theorem relP_nil {ty e : TypeId} (h : und tb ty = some (.slice e)) (fz : Fz) : RelP tb fz ty (.node []) (.slice none 0 0) := .inr (.inr ⟨e, none, 0, h, rfl, Nat.le_refl _, .inl rfl⟩)
/-- A nil slice that is laid into a variable. -/
theorem St.phanNil (hΦ : ∀ q, Φ q → q.2.2.1 ≤ cE) {ty e : TypeId} {sz : Nat} {k : Nat → E} (s : St tb B Φ cE (.new (.vec ty 0) k) b μ t c F w) (hel : elemA tb ty = some (e, sz)) :
    ∃ μ1, Later μ c μ1 (c + 1) ∧ Rel tb μ1 (.vs c 0 ty []) (.slice none 0 0) ∧ St tb B Φ cE (k c) b μ1 (t.put (.vec ty 0) c) (c + 1) F w := by
  obtain ⟨μ1, h1, h2, h3, s'⟩ := St.newVec hΦ s (A := none) (n := 0) hel (fun _ => rfl)
  exact ⟨μ1, h1, ⟨relP_nil (elemA_und hel).1 _, h2, e, (elemA_und hel).1⟩, s'⟩
end
end Px
end

section
namespace Px
open Go Go.RowKit
set_option linter.unusedVariables false
set_option linter.unusedSimpArgs false
section
variable {P : Program} {tb : Tab} {B : Bs} {Φ : Res → Prop} {cE : Nat} {b : Nat} {μ : Mu} {t : T AObj} {c : Nat} {F : Foot} {w w' : World}
theorem phanL_ok (hΦ : ∀ q, Φ q → q.2.2.1 ≤ cE) : ∀ {ts : List TypeId} {cs : List AV} {k : List AV → E} {vs : List Value} {μ : Mu} {t : T AObj} {c : Nat}, St tb B Φ cE (phanL tb ts cs k) b μ t c F w → RelL tb μ cs vs →
    ∃ μ1 t1 c1 cs1, Later μ c μ1 c1 ∧ RelL tb μ1 cs1 vs ∧ (∀ x, x < c → t1.look x = t.look x) ∧ St tb B Φ cE (k cs1) b μ1 t1 c1 F w
  | [], cs, k, vs, μ, t, c, s, hr => ⟨μ, t, c, cs, Later.refl _ _, hr, fun _ _ => rfl, s⟩
  | ty :: ts, [], k, vs, μ, t, c, s, hr => ⟨μ, t, c, [], Later.refl _ _, hr, fun _ _ => rfl, s⟩
  | ty :: ts, a :: cs, k, vs, μ, t, c, s, hr => by
    obtain ⟨v, vs', rfl, h1, h2⟩ := hr
    have keep : St tb B Φ cE (phanL tb ts cs fun r => k (a :: r)) b μ t c F w → ∃ μ1 t1 c1 cs1, Later μ c μ1 c1 ∧ RelL tb μ1 cs1 (v :: vs') ∧ (∀ x, x < c → t1.look x = t.look x) ∧ St tb B Φ cE (k cs1) b μ1 t1 c1 F w := fun s => by
      obtain ⟨μ1, t1, c1, cs1, l, hr1, hs1, s1⟩ := phanL_ok hΦ s h2
      exact ⟨μ1, t1, c1, a :: cs1, l, .cons (h1.mono l.ext) hr1, hs1, s1⟩
    cases a <;> first | exact keep s | skip
    cases e : elemA tb ty with
    | none => exact keep (s.with (by simp only [phanL, e]))
    | some p =>
      have s := s.with (e' := .new (.vec ty 0) fun x => phanL tb ts cs fun r => k (.vs x 0 ty [] :: r)) (by simp only [phanL, e])
      obtain ⟨μ1, l1, hr1, s1⟩ := St.phanNil hΦ s e
      have h2' := RelL.mono l1.ext cs vs' h2
      obtain ⟨μ2, t2, c2, cs2, l2, hr2, hs2, s2⟩ := phanL_ok hΦ s1 h2'
      have ev : v = .slice none 0 0 := h1
      exact ⟨μ2, t2, c2, _, l1.trans l2, .cons (by rw [ev]; exact hr1.mono l2.ext) hr2, fun x hx => by rw [hs2 x (by omega), T.look_put_ne _ _ (by omega)], s2⟩
theorem phanE_ok (hΦ : ∀ q, Φ q → q.2.2.1 ≤ cE) {ty : TypeId} {v : AV} {k : AV → E} {u : Value} (s : St tb B Φ cE (phanE tb ty v k) b μ t c F w) (hr : Rel tb μ v u) :
    ∃ μ1 t1 c1 v1, Later μ c μ1 c1 ∧ Rel tb μ1 v1 u ∧ (∀ x, x < c → t1.look x = t.look x) ∧ St tb B Φ cE (k v1) b μ1 t1 c1 F w := by
  have keep : St tb B Φ cE (k v) b μ t c F w → ∃ μ1 t1 c1 v1, Later μ c μ1 c1 ∧ Rel tb μ1 v1 u ∧ (∀ x, x < c → t1.look x = t.look x) ∧ St tb B Φ cE (k v1) b μ1 t1 c1 F w := fun s => ⟨μ, t, c, v, Later.refl _ _, hr, fun _ _ => rfl, s⟩
  cases v <;> first | exact keep s | skip
  · cases e : elemA tb ty with
    | none => exact keep (s.with (by simp only [phanE, e]))
    | some p =>
      have s := s.with (e' := .new (.vec ty 0) fun x => k (.vs x 0 ty [])) (by simp only [phanE, e])
      obtain ⟨μ1, l1, hr1, s1⟩ := St.phanNil hΦ s e
      have ev : u = .slice none 0 0 := hr
      exact ⟨μ1, _, _, _, l1, by rw [ev]; exact hr1, fun x hx => T.look_put_ne _ _ (by omega), s1⟩
  · rename_i cs
    cases e : leafs tb 20 ty with
    | none => exact keep (s.with (by simp only [phanE, e]))
    | some ts =>
      have s := s.with (e' := phanL tb ts cs fun cs' => k (.agg cs')) (by simp only [phanE, e])
      obtain ⟨xs, eu, hl⟩ := hr
      obtain ⟨μ1, t1, c1, cs1, l, hr1, hs1, s1⟩ := phanL_ok hΦ s hl
      exact ⟨μ1, t1, c1, .agg cs1, l, ⟨xs, eu, hr1⟩, hs1, s1⟩
theorem phanG_ok {q : Bool} (hΦ : ∀ q, Φ q → q.2.2.1 ≤ cE) {ty : TypeId} {v : AV} {k : AV → E} {u : Value} (s : St tb B Φ cE (phanG tb q ty v k) b μ t c F w) (hr : Rel tb μ v u) :
    ∃ μ1 t1 c1 v1, Later μ c μ1 c1 ∧ Rel tb μ1 v1 u ∧ (∀ x, x < c → t1.look x = t.look x) ∧ St tb B Φ cE (k v1) b μ1 t1 c1 F w := by
  unfold phanG at s
  cases q with
  | true => exact phanE_ok hΦ s hr
  | false => exact ⟨μ, t, c, v, Later.refl _ _, hr, fun _ _ => rfl, s⟩

theorem arrAt_one {fz : Fz} {e : TypeId} {sz : Nat} {g : Nat → Option Value} (hsz : 0 < sz) : ∀ {ps : List PV} {o : Nat}, ArrAt tb fz e sz g ps o → ∀ j v, o ≤ j → j < o + ps.length * sz → g j = some v → v.oneCell' = true
  | [], o, _, j, v, h1, h2, _ => by simp at h2; omega
  | p :: ps, o, ⟨⟨u, k1, k2, k3, k4, k5⟩, k6⟩, j, v, h1, h2, hv => by
    have e1 : o + sz + ps.length * sz = o + (ps.length + 1) * sz := by rw [Nat.succ_mul]; omega
    by_cases hj : j < o + sz
    · have hlt : j - o < u.cells.toList.length := by rw [Array.length_toList, k3]; omega
      have := k5 (j - o) _ (List.getElem?_eq_getElem hlt)
      rw [show o + (j - o) = j by omega, hv] at this
      cases this
      exact k4 _ (List.getElem_mem _)
    · exact arrAt_one hsz k6 j v (by omega) (by rw [e1]; simpa using h2) hv
/-- A slice that is filled, from here on as it is. -/
theorem frzE_ok {v : AV} {k : AV → E} {u : Value} (s : St tb B Φ cE (frzE v k) b μ t c F w) (hr : Rel tb μ v u) : ∃ μ1 t1 F1 v1, Later μ c μ1 c ∧ Rel tb μ1 v1 u ∧ St tb B Φ cE (k v1) b μ1 t1 c F1 w := by
  have keep : St tb B Φ cE (k v) b μ t c F w → ∃ μ1 t1 F1 v1, Later μ c μ1 c ∧ Rel tb μ1 v1 u ∧ St tb B Φ cE (k v1) b μ1 t1 c F1 w := fun s => ⟨μ, t, F, v, Later.refl _ _, hr, s⟩
  cases v <;> first | exact keep s | skip
  rename_i x ty
  obtain ⟨hx, o, ho, F', s⟩ := St.get s
  cases o <;> first | exact (St.fail (n := 90) s).elim | skip
  rename_i st es
  obtain ⟨hb, s1⟩ := St.when s
  clear s
  rw [Nat.beq_eq] at hb; subst hb
  have s := s1
  clear s1
  obtain ⟨_, F'', s'⟩ := St.set s
  obtain ⟨p, e, sz, H⟩ := s.inv.obj x _ ho
  obtain ⟨p', n, ad, e', sz', r1, r2, r3, r4, r5⟩ := hr
  rw [H.pl] at r1; cases r1
  rw [H.el] at r2; cases r2
  obtain ⟨hu, hsz, hpos⟩ := elemA_und H.el
  have hn : n = es.length := by
    have : n * sz = es.length * sz := by rw [← r4, H.r]
    exact Nat.eq_of_mul_eq_mul_right hpos this
  have hext : Ext μ (μ.addFz p.b p.o (p.o + p.r) w) := Ext.addFz (fun o v h1 h2 hv => (s.inv.fz _ _ _ hv).1)
  have hown : Owns μ t.look x p.b := by unfold Owns; rw [ho]; exact ⟨p, H.pl, rfl⟩
  have hnone : ∀ b', ¬ Owns (μ.addFz p.b p.o (p.o + p.r) w) (upd t.look x .dead) x b' := fun b' hb => by unfold Owns at hb; rw [upd_same] at hb; exact hb
  refine ⟨_, _, F'', _, ⟨Nat.le_refl _, hext⟩, ?_, s' _ _ (s.inv.upd (fun y => y = x) s.inv.fr (Nat.le_refl _) (fun b _ _ => rfl) hext (fun _ _ => ⟨rfl, fun _ => rfl⟩) (fun b o v hv => ?_) (fun b o v hv _ => (s.inv.fz b o v hv).1)
    (fun y hy => upd_ne _ _ hy) (fun y hy => by subst hy; rw [upd_same]; simp) (fun y m v hy hv => ?_) (fun y o hy ho => ?_) (fun y b hy hb => ?_) (fun y z b hy hz hyz => (hyz (hy.trans hz.symm)).elim))⟩
  · show RelP tb _ st (.node es) u
    refine .inr (.inr ⟨e, some ad, n, hu, by rw [r3, hn], by rw [hn]; exact Nat.le_refl _, ?_⟩)
    by_cases h0 : es = []
    · exact .inl h0
    · have : ad = ⟨p.b, p.o, none⟩ := by
        rcases r5 with r5 | r5
        · exact absurd (List.eq_nil_of_length_eq_zero (hn ▸ r5)) h0
        · exact r5
      refine .inr ⟨p.b, p.o, sz, by rw [this], hsz, ?_⟩
      refine (H.cells.mono hext.fz (fun j v _ _ h => h)).relE (fun j v h1 h2 hv => ?_)
      show (if p.b = p.b ∧ p.o ≤ j ∧ j < p.o + p.r then w.cell? ⟨p.b, j, none⟩ else μ.fz p.b j) = some v
      rw [if_pos ⟨rfl, h1, by rw [H.r]; exact h2⟩]; exact hv
  · have hv : (if b = p.b ∧ p.o ≤ o ∧ o < p.o + p.r then w.cell? ⟨b, o, none⟩ else μ.fz b o) = some v := hv
    split at hv
    · rename_i e; obtain ⟨rfl, e2, e3⟩ := e
      exact .inr ⟨.inr ⟨x, rfl, hown⟩, hv, arrAt_one hpos H.cells o v e2 (by rw [← H.r]; exact e3) hv⟩
    · exact .inl hv
  · subst hy
    obtain ⟨t0, v0, h1, _⟩ := s.inv.sdom y m v hv
    rw [ho] at h1; cases h1
  · subst hy; rw [upd_same] at ho; cases ho; trivial
  · subst hy; exact (hnone _ hb).elim
theorem frzL_ok : ∀ {l : List AV} {k : List AV → E} {us : List Value} {μ : Mu} {t : T AObj} {F : Foot}, St tb B Φ cE (frzL l k) b μ t c F w → RelL tb μ l us → ∃ μ1 t1 F1 l1, Later μ c μ1 c ∧ RelL tb μ1 l1 us ∧ St tb B Φ cE (k l1) b μ1 t1 c F1 w
  | [], k, us, μ, t, F, s, hr => ⟨μ, t, F, [], Later.refl _ _, hr, s⟩
  | a :: l, k, us, μ, t, F, s, hr => by
    obtain ⟨v, vs, rfl, h1, h2⟩ := hr
    obtain ⟨μ1, t1, F1, v1, l1, r1, s1⟩ := frzE_ok s h1
    obtain ⟨μ2, t2, F2, l2, e2, r2, s2⟩ := frzL_ok s1 (RelL.mono l1.ext _ _ h2)
    exact ⟨μ2, t2, F2, v1 :: l2, l1.trans e2, .cons (r1.mono e2.ext) r2, s2⟩
theorem addr_add (B o n : Nat) : (⟨B, o, none⟩ : Addr).add n = ⟨B, o + n, none⟩ := by unfold Addr.add; split <;> simp_all
/-- A variable's value, read of its cells. -/
theorem run_loadVar (ok : TabOk P tb) {ty : TypeId} {u : Value} {B' o : Nat} (hk : Kind tb ty u) (hs : szA tb ty = some u.cells.size) (hc : CellsAt (fun o => w.cell? ⟨B', o, none⟩) o u.cells.toList) : (loadVar ty ⟨B', o, none⟩).run P w = .ok u w := by
  rcases hk with ⟨h1, xs, rfl⟩ | ⟨h1, h2⟩
  · have := run_loadCells_list (P := P) w ⟨B', o, none⟩ xs.toList (fun j v hv => by rw [addr_add]; exact hc j v hv)
    rw [Array.length_toList] at this
    have hs : szA tb ty = some xs.size := hs
    simp only [loadVar, Sem.run_bind, run_agg ok h1, Result.andThen_ok, if_true, run_sz ok hs, this, Sem.run_pure]
  · have hcl := cells_one h2
    have := hc 0 u (by rw [hcl]; rfl)
    simp only [Nat.add_zero] at this
    simp [loadVar, run_agg ok h1, this]
theorem load_ok (ok : TabOk P tb) {ty : TypeId} {v : AV} {u : Value} {k : AV → E} {N : Value → World → Prop} (s : St tb B Φ cE (loadE tb ty v k) b μ t c F w) (hu : Rel tb μ v u) (hN : Then tb B Φ cE b k μ c N) : Runs P (Instr.loadAt ty u) w N := by
  cases v <;> first | exact (St.fail (n := 110) s).elim | skip
  · rename_i q
    cases q with
    | none => exact (St.fail (n := 110) s).elim
    | some q =>
      obtain ⟨x, off⟩ := q
      obtain ⟨p, hp, rfl⟩ := hu
      obtain ⟨hx, o, ho, F', s⟩ := St.get s
      cases o <;> first | exact (St.fail (n := 108) s).elim | skip
      rename_i bt bv
      obtain ⟨p', u, H⟩ := s.inv.obj x _ ho
      rw [H.pl] at hp; cases hp
      obtain ⟨a, ha, s⟩ := St.opt s
      obtain ⟨wv, sz, k1, k2, k3, k4, k5⟩ := partV_ok ha H.rel H.kind H.sz H.one
      refine .of (u := wv) ?_ (hN.now s k1)
      have := run_loadVar (w := w) (P := P) ok k2 (by rw [k3, k5]) (B' := p.b) (o := p.o + off) (fun j c hj => by
        rw [k4] at hj
        have hlt := (List.getElem?_eq_some_iff.1 hj).1
        rw [List.length_take] at hlt
        rw [List.getElem?_take, if_pos (by omega), List.getElem?_drop] at hj
        have := H.cells _ c hj
        rw [← Nat.add_assoc] at this; exact this)
      simpa [Instr.loadAt, Instr.sureAddr] using this
  · rename_i ty' p
    simp only [loadE] at s
    obtain ⟨hb, s1⟩ := St.when s
    clear s
    rw [Nat.beq_eq] at hb; subst hb
    obtain ⟨a, ha, s⟩ := St.opt s1
    obtain ⟨b', o, u', rfl, h1, h2, h3, h4⟩ := hu
    refine .of (u := u') ?_ (hN.now s (expandV_ok ha h1))
    have := run_loadVar (w := w) (P := P) ok h2 h3 (B' := b') (o := o) (fun j c hj => (s.inv.fz _ _ _ (h4 j c hj)).1)
    simpa [Instr.loadAt, Instr.sureAddr] using this
  · rename_i x ty' i
    obtain ⟨p, sz, h1, h2, h3, rfl⟩ := hu
    obtain ⟨hx, o, ho, F', s⟩ := St.get s
    cases o <;> first | exact (St.fail (n := 105) s).elim | skip
    rename_i st es
    obtain ⟨p', e, sz', H⟩ := s.inv.obj x _ ho
    rw [H.pl] at h1; cases h1
    have s := s.with (e' := bif Nat.beq ty ty' && Nat.beq e ty then ck 106 (inP es i) (Px.opt 106 (expandV tb ty (getP es i)) k) else .fail 106) (by simp only [H.el])
    obtain ⟨hb, s1⟩ := St.when s
    clear s
    rw [Bool.and_eq_true, Nat.beq_eq, Nat.beq_eq] at hb
    obtain ⟨rfl, rfl⟩ := hb
    obtain ⟨hin, s⟩ := St.ck s1
    clear s1
    obtain ⟨a, ha, s⟩ := St.opt s
    obtain ⟨_, hsz, hpos⟩ := elemA_und H.el
    rw [h2] at hsz; cases hsz
    simp only [inP, Bool.and_eq_true, decide_eq_true_eq] at hin
    have hlt : i.toNat < es.length := by omega
    have key : ∀ (ps : List PV) (o n : Nat), n < ps.length → ArrAt tb μ.fz e sz' (fun o => w.cell? ⟨p.b, o, none⟩) ps o → ∃ u, RelP tb μ.fz e (ps.getD n (.node [])) u ∧ Kind tb e u ∧ u.cells.size = sz' ∧ CellsAt (fun o => w.cell? ⟨p.b, o, none⟩) (o + n * sz') u.cells.toList := by
      intro ps
      induction ps with
      | nil => intro o n hn; simp at hn
      | cons q ps ih =>
        intro o n hn ⟨⟨u, m1, m2, m3, m4, m5⟩, m6⟩
        cases n with
        | zero => exact ⟨u, m1, m2, m3, by simpa using m5⟩
        | succ n =>
          obtain ⟨u', m⟩ := ih (o + sz') n (by simpa using hn) m6
          rw [show o + sz' + n * sz' = o + (n + 1) * sz' by rw [Nat.succ_mul]; omega] at m
          exact ⟨u', by simpa using m⟩
    obtain ⟨u', m1, m2, m3, m4⟩ := key es p.o i.toNat hlt H.cells
    refine .of (u := u') ?_ (hN.now s (expandV_ok ha m1))
    have := run_loadVar (w := w) (P := P) ok m2 (by rw [h2, m3]) m4
    simpa [Instr.loadAt, Instr.sureAddr] using this
end
end Px
end

section
namespace Px
open Go Go.RowKit
set_option linter.unusedVariables false
set_option linter.unusedSimpArgs false
section
variable {P : Program} {tb : Tab} {B : Bs} {Φ : Res → Prop} {cE : Nat} {b : Nat} {μ : Mu} {h : Hp} {t : T AObj} {c : Nat} {F : Foot} {w w' : World}
theorem setCells_facts {w0 w : World} {B : Nat} (hb : Below B w0 w) (bk o : Nat) (hB : B ≤ bk) (vs : List Value) : Below B w0 (w.setCells bk o vs) ∧ (w.setCells bk o vs).heap.size = w.heap.size ∧ (∀ i, i < w.heap.size → i ≠ bk → (w.setCells bk o vs).heap[i]? = w.heap[i]?) := by
  have hs : ∀ (vs : List Value) (o : Nat) (w : World), (w.setCells bk o vs).heap.size = w.heap.size := by
    intro vs
    induction vs with
    | nil => intro o w; rfl
    | cons v vs ih => intro o w; show ((w.setCell _ v).setCells bk (o + 1) vs).heap.size = _; rw [ih]; simp [World.setCell]
  have hbl : ∀ (vs : List Value) (o : Nat) (w : World), Below B w0 w → Below B w0 (w.setCells bk o vs) := by
    intro vs
    induction vs with
    | nil => intro o w h; exact h
    | cons v vs ih => intro o w h; exact ih (o + 1) _ (h.setCell hB v)
  exact ⟨hbl vs o w hb, hs vs o w, fun i hi hne => World.heap_setCells_other w bk o vs hi hne⟩
theorem Fr.setCells {S : Nat → Prop} {w0 w : World} (h : Fr S w0 w) {bk : Nat} (hb : S bk ∨ w0.heap.size ≤ bk) (o : Nat) (vs : List Value) : Fr S w0 (w.setCells bk o vs) := by
  obtain ⟨h1, h2, h3⟩ := setCells_facts (Below.refl 0 w) bk o (Nat.zero_le _) vs
  refine ⟨h1.os.trans h.os, h1.tape.trans h.tape, h1.output.trans h.output, by rw [h2]; exact h.size, fun k hk hs => ?_⟩
  rw [h3 k (Nat.lt_of_lt_of_le hk h.size) (fun e => ?_)]
  · exact h.block k hk hs
  · subst e
    rcases hb with hb | hb
    · exact hs hb
    · omega
theorem setCells_size (w : World) (bk o : Nat) (vs : List Value) : (w.setCells bk o vs).heap.size = w.heap.size := (setCells_facts (Below.refl 0 w) bk o (Nat.zero_le _) vs).2.1
theorem setCells_other (w : World) (bk o : Nat) (vs : List Value) {i : Nat} (hi : i < w.heap.size) (hne : i ≠ bk) : (w.setCells bk o vs).heap[i]? = w.heap[i]? := (setCells_facts (Below.refl 0 w) bk o (Nat.zero_le _) vs).2.2 i hi hne
/-- A variable's cells, laid anew from a place on. -/
theorem Inv.setBox (I : Inv tb B μ h w) {x : Nat} {ty : TypeId} {v v2 : AV} {p : Place} {u u2 : Value} (ho : h x = some (.box ty v)) (H : BoxAt tb μ w x ty v p u) {off : Nat} {ys : List Value} (hlen : off + ys.length ≤ p.r) (hone : ∀ y ∈ ys, y.oneCell' = true)
    (hr : Rel tb μ v2 u2) (hk : Kind tb ty u2) (hs : u2.cells.size = p.r) (hc : ∀ j d, u2.cells.toList[j]? = some d → if off ≤ j ∧ j < off + ys.length then ys[j - off]? = some d else u.cells.toList[j]? = some d) :
    Inv tb B μ (Px.upd h x (.box ty v2)) (w.setCells p.b (p.o + off) ys) := by
  have hown : Owns μ h x p.b := by unfold Owns; rw [ho]; exact ⟨p, H.pl, rfl⟩
  have hbase := I.base x p.b hown
  have hin : ∀ j, j < p.r → (w.cell? ⟨p.b, p.o + j, none⟩).isSome = true := fun j hj => by
    have hlt : j < u.cells.toList.length := by rw [Array.length_toList, ← H.r]; exact hj
    have := H.cells j _ (List.getElem?_eq_getElem hlt)
    rw [show w.cell? ⟨p.b, p.o + j, none⟩ = _ from this]; rfl
  have hcs : ∀ j, j < ys.length → (w.cell? ⟨p.b, p.o + off + j, none⟩).isSome = true := fun j hj => by rw [Nat.add_assoc]; exact hin (off + j) (by omega)
  have hcell : ∀ j, j < p.r → (off ≤ j ∧ j < off + ys.length → (w.setCells p.b (p.o + off) ys).cell? ⟨p.b, p.o + j, none⟩ = ys[j - off]?) ∧ (¬ (off ≤ j ∧ j < off + ys.length) → (w.setCells p.b (p.o + off) ys).cell? ⟨p.b, p.o + j, none⟩ = w.cell? ⟨p.b, p.o + j, none⟩) := fun j hj => by
    refine ⟨fun hin => ?_, fun hin => ?_⟩
    · have := World.cell?_setCells_in p.b ys (p.o + off) w hcs (j - off) (by omega)
      rw [show p.o + off + (j - off) = p.o + j by omega] at this
      rw [this, List.getElem?_eq_getElem (by omega)]
    · exact World.cell?_setCells_out p.b ys (p.o + off) w ⟨p.b, p.o + j, none⟩ (fun _ _ => by show p.o + j < p.o + off ∨ p.o + off + ys.length ≤ p.o + j; omega)
  have hone2 : ∀ d ∈ u2.cells.toList, d.oneCell' = true := fun d hd => by
    obtain ⟨j, hj⟩ := List.mem_iff_getElem?.1 hd
    have := hc j d hj
    split at this
    · exact hone d (List.mem_of_getElem? this)
    · exact H.one d (List.mem_of_getElem? this)
  refine I.upd (fun y => y = x) (I.fr.setCells hbase.2 _ _) (by rw [setCells_size]; exact Nat.le_refl _) (fun b hb hn => setCells_other _ _ _ _ hb (fun e => hn x rfl (e ▸ hown))) (Ext.refl μ) (fun _ _ => ⟨rfl, fun _ => rfl⟩) (fun _ _ _ hv => .inl hv) (fun b o v hv ⟨y, hy, hyo⟩ => ?_)
    (fun y hy => upd_ne _ _ hy) (fun y hy => by subst hy; rw [upd_same]; simp) (fun y m v hy hv => ?_) (fun y o hy ho2 => ?_) (fun y b hy hb => ?_) (fun y z b hy hz hyz => (hyz (hy.trans hz.symm)).elim)
  · subst hy
    have hb : b = p.b := by
      unfold Owns at hyo; rw [ho] at hyo
      obtain ⟨p', h1, h2⟩ := hyo
      rw [H.pl] at h1; cases h1; exact h2.symm
    subst hb
    rw [World.cell?_setCells_out p.b ys (p.o + off) w ⟨p.b, o, none⟩ (fun _ _ => ?_)]
    · exact (I.fz _ _ _ hv).1
    · show o < p.o + off ∨ p.o + off + ys.length ≤ o
      refine Classical.byContradiction fun hcon => ?_
      have := (H.free (o - p.o) (by omega)).2
      rw [show p.o + (o - p.o) = o by omega, hv] at this; cases this
  · subst hy
    obtain ⟨t0, v0, h1, _⟩ := I.sdom y m v hv
    rw [ho] at h1; cases h1
  · subst hy
    rw [upd_same] at ho2; cases ho2
    refine ⟨p, u2, H.pl, hr, hk, ?_, hs.symm, hone2, fun j d hj => ?_, fun j hj => ⟨by rw [World.frozen?_setCells]; exact (H.free j hj).1, (H.free j hj).2⟩⟩
    · rw [hs, H.r]; exact H.sz
    · have hlt := (List.getElem?_eq_some_iff.1 hj).1
      rw [Array.length_toList, hs] at hlt
      have := hc j d hj
      show (w.setCells p.b (p.o + off) ys).cell? _ = _
      split at this
      · rename_i hin; rw [(hcell j hlt).1 hin]; exact this
      · rename_i hin; rw [(hcell j hlt).2 hin]; exact H.cells j d this
  · subst hy
    unfold Owns at hb; rw [upd_same] at hb
    obtain ⟨p', h1, h2⟩ := hb
    rw [H.pl] at h1; cases h1; subst h2
    exact ⟨by rw [setCells_size]; exact hbase.1, .inr ⟨y, rfl, hown⟩⟩
theorem arrAt_set {fz : Fz} {e : TypeId} {sz : Nat} {g g' : Nat → Option Value} {q : PV} {y : Value} (hq : RelP tb fz e q y) (hy : y.cells.size = sz) (h1 : ∀ d ∈ y.cells.toList, d.oneCell' = true) : ∀ {ps : List PV} {o n : Nat}, n < ps.length → ArrAt tb fz e sz g ps o →
    (∀ j, ¬ (o + n * sz ≤ j ∧ j < o + n * sz + sz) → g' j = g j) → CellsAt g' (o + n * sz) y.cells.toList → ArrAt tb fz e sz g' (ps.set n q) o
  | [], o, n, hn, _, _, _ => by simp at hn
  | p :: ps, o, 0, hn, ⟨_, k6⟩, hg, hc => by
    simp only [Nat.zero_mul, Nat.add_zero] at hg hc
    refine ⟨⟨y, hq, relP_kind hq, hy, h1, hc⟩, k6.mono (fun _ _ _ h => h) (fun j v hj _ hv => ?_)⟩
    rw [hg j (by omega)]; exact hv
  | p :: ps, o, n + 1, hn, ⟨⟨u, k1, k2, k3, k4, k5⟩, k6⟩, hg, hc => by
    have e1 : o + sz + n * sz = o + (n + 1) * sz := by rw [Nat.succ_mul]; omega
    refine ⟨⟨u, k1, k2, k3, k4, fun j d hj => ?_⟩, arrAt_set hq hy h1 (by simpa using hn) k6 (by rw [e1]; exact hg) (by rw [e1]; exact hc)⟩
    have hlt := (List.getElem?_eq_some_iff.1 hj).1
    rw [Array.length_toList, k3] at hlt
    rw [hg (o + j) (by rw [← e1]; omega)]; exact k5 j d hj
/-- An element, laid anew. -/
theorem Inv.setArr (I : Inv tb B μ h w) {x : Nat} {ty : TypeId} {es : List PV} {p : Place} {e sz : Nat} (ho : h x = some (.arr ty es)) (H : ArrIs tb μ w x ty es p e sz) {n : Nat} {q : PV} {y : Value} (hn : n < es.length) (hq : RelP tb μ.fz e q y) (hy : y.cells.size = sz) (h1 : ∀ d ∈ y.cells.toList, d.oneCell' = true) :
    Inv tb B μ (Px.upd h x (.arr ty (es.set n q))) (w.setCells p.b (p.o + n * sz) y.cells.toList) := by
  have hown : Owns μ h x p.b := by unfold Owns; rw [ho]; exact ⟨p, H.pl, rfl⟩
  have hbase := I.base x p.b hown
  have hyl : y.cells.toList.length = sz := by rw [Array.length_toList, hy]
  have hroom : n * sz + sz ≤ p.r := by rw [H.r, ← Nat.succ_mul]; exact Nat.mul_le_mul_right _ hn
  have hcs : ∀ j, j < y.cells.toList.length → (w.cell? ⟨p.b, p.o + n * sz + j, none⟩).isSome = true := fun j hj => by rw [Nat.add_assoc]; exact (H.free (n * sz + j) (by omega)).1
  have hout : ∀ j, ¬ (p.o + n * sz ≤ j ∧ j < p.o + n * sz + sz) → (w.setCells p.b (p.o + n * sz) y.cells.toList).cell? ⟨p.b, j, none⟩ = w.cell? ⟨p.b, j, none⟩ := fun j hj => World.cell?_setCells_out p.b _ (p.o + n * sz) w ⟨p.b, j, none⟩ (fun _ _ => by show j < p.o + n * sz ∨ p.o + n * sz + y.cells.toList.length ≤ j; omega)
  have hin : CellsAt (fun o => (w.setCells p.b (p.o + n * sz) y.cells.toList).cell? ⟨p.b, o, none⟩) (p.o + n * sz) y.cells.toList := fun j d hj => by
    have hlt := (List.getElem?_eq_some_iff.1 hj).1
    show (w.setCells p.b (p.o + n * sz) y.cells.toList).cell? _ = _
    rw [World.cell?_setCells_in p.b _ (p.o + n * sz) w hcs j hlt, ← hj, List.getElem?_eq_getElem hlt]
  refine I.upd (fun y => y = x) (I.fr.setCells hbase.2 _ _) (by rw [setCells_size]; exact Nat.le_refl _) (fun b hb hn => setCells_other _ _ _ _ hb (fun e => hn x rfl (e ▸ hown))) (Ext.refl μ) (fun _ _ => ⟨rfl, fun _ => rfl⟩) (fun _ _ _ hv => .inl hv) (fun b o v hv ⟨z, hz, hzo⟩ => ?_)
    (fun z hz => upd_ne _ _ hz) (fun z hz => by subst hz; rw [upd_same]; simp) (fun z m v hz hv => ?_) (fun z o hz ho2 => ?_) (fun z b hz hb => ?_) (fun z y b hz hy hzy => (hzy (hz.trans hy.symm)).elim)
  · subst hz
    have hb : b = p.b := by
      unfold Owns at hzo; rw [ho] at hzo
      obtain ⟨p', h1, h2⟩ := hzo
      rw [H.pl] at h1; cases h1; exact h2.symm
    subst hb
    rw [hout o (fun hcon => ?_)]
    · exact (I.fz _ _ _ hv).1
    · have := (H.free (o - p.o) (by omega)).2.2
      rw [show p.o + (o - p.o) = o by omega, hv] at this; cases this
  · subst hz
    obtain ⟨t0, v0, h1, _⟩ := I.sdom z m v hv
    rw [ho] at h1; cases h1
  · subst hz
    rw [upd_same] at ho2; cases ho2
    refine ⟨p, e, sz, H.pl, H.el, by rw [List.length_set]; exact H.r, arrAt_set hq hy h1 hn H.cells hout hin, fun j hj => ?_⟩
    obtain ⟨f1, f2, f3⟩ := H.free j hj
    refine ⟨?_, by rw [World.frozen?_setCells]; exact f2, f3⟩
    by_cases hjin : p.o + n * sz ≤ p.o + j ∧ p.o + j < p.o + n * sz + sz
    · have := World.cell?_setCells_in p.b _ (p.o + n * sz) w hcs (j - n * sz) (by omega)
      rw [show p.o + n * sz + (j - n * sz) = p.o + j by omega] at this
      rw [this]; rfl
    · rw [hout _ hjin]; exact f1
  · subst hz
    unfold Owns at hb; rw [upd_same] at hb
    obtain ⟨p', h1, h2⟩ := hb
    rw [H.pl] at h1; cases h1; subst h2
    exact ⟨by rw [setCells_size]; exact hbase.1, .inr ⟨z, rfl, hown⟩⟩
theorem store_ok {q : Bool} (ok : TabOk P tb) (hΦ : ∀ q, Φ q → q.2.2.1 ≤ cE) {ty : TypeId} {v x : AV} {u y : Value} {k : AV → E} {N : Value → World → Prop} (s : St tb B Φ cE (storeE tb q ty v x (k undA)) b μ t c F w) (hu : Rel tb μ v u) (hy : Rel tb μ x y) (hN : Then tb B Φ cE b k μ c N) : RunsU P (Instr.storeAt ty u y) w N := by
  cases v <;> first | exact (St.fail (n := 113) s).elim | skip
  · rename_i q
    cases q with
    | none => exact (St.fail (n := 113) s).elim
    | some q =>
      obtain ⟨z, off⟩ := q
      obtain ⟨p, hp, rfl⟩ := hu
      obtain ⟨hz, o, ho, F', s⟩ := St.get s
      cases o <;> first | exact (St.fail (n := 116) s).elim | skip
      rename_i bt bv
      obtain ⟨μ1, t1, c1, x1, l1, hy1, hs1, s⟩ := phanG_ok hΦ s hy
      have hp1 := l1.ext.pl _ _ hp
      have ho1 : t1.look z = some (.box bt bv) := by rw [hs1 z hz]; exact ho
      obtain ⟨p', u0, H0⟩ := s.inv.obj z _ ho1
      rw [H0.pl] at hp1; cases hp1
      cases ew : Nat.beq off 0 && Nat.beq ty bt with
      | true =>
        have s := s.with (e' := bif boxOk tb ty x1 then .set z (.box bt x1) (k undA) else .fail 115) (by rw [ew]; rfl)
        obtain ⟨hb, s⟩ := s.when
        rw [Bool.and_eq_true, Nat.beq_eq, Nat.beq_eq] at ew
        obtain ⟨e1, e2⟩ := ew
        obtain ⟨_, F'', s'⟩ := St.set s
        have Iv := s.inv
        subst e1
        obtain ⟨hk, hs, hone⟩ := boxOk_ok hb hy1
        have hsz : y.cells.size = p.r := by
          rw [e2, H0.sz] at hs
          rw [H0.r]; exact (Option.some.inj hs).symm
        have I := Iv.setBox (v2 := x1) (u2 := y) ho1 H0 (off := 0) (ys := y.cells.toList) (by rw [Array.length_toList, hsz]; omega) hone hy1 (e2 ▸ hk) hsz (fun j d hj => by
          rw [if_pos ⟨Nat.zero_le _, by have := (List.getElem?_eq_some_iff.1 hj).1; omega⟩]; exact hj)
        refine ⟨_, ?_, (hN.later l1).now (s' _ _ I) rel_undef⟩
        have hin : ∀ j, j < y.cells.toList.length → (w.cell? ⟨p.b, p.o + 0 + j, none⟩).isSome = true := fun j hj => by
          have hlt : j < u0.cells.toList.length := by rw [Array.length_toList, ← H0.r, ← hsz, ← Array.length_toList]; exact hj
          have := H0.cells j _ (List.getElem?_eq_getElem hlt)
          rw [Nat.add_zero, show w.cell? ⟨p.b, p.o + j, none⟩ = _ from this]; rfl
        have hfz : ∀ j, j < y.cells.toList.length → w.frozen? ⟨p.b, p.o + 0 + j, none⟩ = false := fun j hj => by
          rw [Nat.add_zero]; exact (H0.free j (by rw [← hsz, ← Array.length_toList]; exact hj)).1
        have := run_storeCells_cells (P := P) p.b (p.o + 0) y.cells.toList 0 w (by simpa using hin) (by simpa using hfz) hone
        simpa [Instr.storeAt, Instr.sureAddr, storeVar, run_sz ok hs] using this
      | false =>
        have s := s.with (e' := Px.opt 111 (cellsV tb bv) fun cs => Px.opt 112 (cellsV tb x1) fun us => Px.opt 113 (szA tb ty) fun n => bif Nat.beq us.length n && allCellA tb us then
          Px.opt 114 (seg cs off n) fun _ => Px.opt 114 (lay cs off us) fun cs' => bif boxOk tb bt (.agg cs') then .set z (.box bt (.agg cs')) (k undA) else .fail 115 else .fail 115) (by rw [ew]; rfl)
        obtain ⟨cs, hcs, s⟩ := s.opt
        obtain ⟨us, hus, s⟩ := s.opt
        obtain ⟨n, hn, s⟩ := s.opt
        obtain ⟨hb, s⟩ := s.when
        rw [Bool.and_eq_true, Nat.beq_eq] at hb
        obtain ⟨sg, hsg, s⟩ := s.opt
        obtain ⟨cs', hlay, s⟩ := s.opt
        obtain ⟨hbox, s⟩ := s.when
        have hru := cellsV_ok hus hy1
        have hrc := cellsV_ok hcs H0.rel
        have hone := allCellA_ones hb.2 hru
        have hyl : y.cells.toList.length = n := by rw [hru.len, hb.1]
        obtain ⟨_, _, hle⟩ := seg_spec _ _ _ _ hsg
        obtain ⟨_, l2, l3⟩ := lay_spec _ _ _ _ hlay
        have hcl : cs.length = p.r := by rw [← hrc.len, Array.length_toList, H0.r]
        -- the cells as they are then
        obtain ⟨zs, hz1, hz2⟩ : ∃ zs : List Value, RelL tb μ1 cs' zs ∧ ∀ j, zs[j]? = if off ≤ j ∧ j < off + y.cells.toList.length then y.cells.toList[j - off]? else u0.cells.toList[j]? := by
          refine ⟨(List.range cs'.length).map fun j => ((if off ≤ j ∧ j < off + y.cells.toList.length then y.cells.toList[j - off]? else u0.cells.toList[j]?).getD undef), RelL.of (by simp) fun j a ha => ?_, fun j => ?_⟩
          · have hj := (List.getElem?_eq_some_iff.1 ha).1
            rw [l3] at ha
            rw [List.getElem?_map, List.getElem?_range hj]
            refine ⟨_, rfl, ?_⟩
            show Rel tb μ1 a ((if off ≤ j ∧ j < off + y.cells.toList.length then y.cells.toList[j - off]? else u0.cells.toList[j]?).getD undef)
            rw [hyl, ← hb.1]
            split at ha
            · rename_i hin
              rw [if_pos hin]
              obtain ⟨v, e, hv⟩ := hru.get _ _ ha
              rw [e]; exact hv
            · rename_i hin
              rw [if_neg hin]
              obtain ⟨v, e, hv⟩ := hrc.get _ _ ha
              rw [e]; exact hv
          · rw [List.getElem?_map]
            by_cases hj : j < cs'.length
            · rw [List.getElem?_range hj]
              show some ((if off ≤ j ∧ j < off + y.cells.toList.length then y.cells.toList[j - off]? else u0.cells.toList[j]?).getD undef) = _
              have hlt : j < max cs.length (off + us.length) := by rw [← l2]; exact hj
              by_cases hin : off ≤ j ∧ j < off + y.cells.toList.length
              · rw [if_pos hin, List.getElem?_eq_getElem (by omega)]; rfl
              · rw [if_neg hin, List.getElem?_eq_getElem (by rw [hrc.len]; rw [hyl] at hin; omega)]; rfl
            · rw [List.getElem?_eq_none (by simpa using hj)]
              have : ¬ (off ≤ j ∧ j < off + y.cells.toList.length) := by rw [hyl]; rw [l2, hb.1] at hj; omega
              rw [if_neg this, List.getElem?_eq_none (by rw [hrc.len]; rw [l2] at hj; omega)]; rfl
        have hr2 : Rel tb μ1 (.agg cs') (.agg zs.toArray) := ⟨_, rfl, by simpa using hz1⟩
        obtain ⟨hk, hs, hone2⟩ := boxOk_ok hbox hr2
        have hzl : zs.length = p.r := by rw [hz1.len, l2, hb.1]; omega
        obtain ⟨_, F'', s'⟩ := St.set s
        have I := s.inv.setBox (v2 := .agg cs') (u2 := .agg zs.toArray) ho1 H0 (off := off) (ys := y.cells.toList) (by rw [hyl]; omega) hone hr2 hk (by show zs.toArray.size = _; rw [List.size_toArray, hzl]) (fun j d hj => by
          have hj : zs[j]? = some d := by simpa [Value.cells] using hj
          rw [hz2] at hj
          split
          · rename_i hin; rw [if_pos hin] at hj; exact hj
          · rename_i hin; rw [if_neg hin] at hj; exact hj)
        refine ⟨_, ?_, (hN.later l1).now (s' _ _ I) rel_undef⟩
        have hin : ∀ j, j < y.cells.toList.length → (w.cell? ⟨p.b, p.o + off + j, none⟩).isSome = true := fun j hj => by
          have hlt : off + j < u0.cells.toList.length := by rw [hrc.len]; rw [hyl] at hj; omega
          have := H0.cells (off + j) _ (List.getElem?_eq_getElem hlt)
          rw [Nat.add_assoc, show w.cell? ⟨p.b, p.o + (off + j), none⟩ = _ from this]; rfl
        have hfz : ∀ j, j < y.cells.toList.length → w.frozen? ⟨p.b, p.o + off + j, none⟩ = false := fun j hj => by
          rw [Nat.add_assoc]; exact (H0.free (off + j) (by rw [hyl] at hj; omega)).1
        have := run_storeCells_cells (P := P) p.b (p.o + off) y.cells.toList 0 w (by simpa using hin) (by simpa using hfz) hone
        have hysz : y.cells.size = n := by rw [← Array.length_toList, hyl]
        simpa [Instr.storeAt, Instr.sureAddr, storeVar, run_sz ok hn, hysz] using this
  · rename_i x0 ty' i
    obtain ⟨p, sz, h1, h2, h3, rfl⟩ := hu
    obtain ⟨hx, o, ho, F', s⟩ := St.get s
    cases o <;> first | exact (St.fail (n := 119) s).elim | skip
    rename_i st es
    obtain ⟨p', e, sz', H⟩ := s.inv.obj x0 _ ho
    rw [H.pl] at h1; cases h1
    have s := s.with (e' := bif Nat.beq ty ty' && Nat.beq e ty then Px.opt 117 (norm tb 20 ty x) fun p => Px.opt 117 (cellsV tb x) fun us => bif Nat.beq us.length sz' && allCellA tb us then ck 118 (inP es i) (.set x0 (.arr st (setP es i p)) (k undA)) else .fail 117 else .fail 117) (by simp only [H.el])
    obtain ⟨hb, s1⟩ := St.when s
    clear s
    rw [Bool.and_eq_true, Nat.beq_eq, Nat.beq_eq] at hb
    obtain ⟨rfl, rfl⟩ := hb
    obtain ⟨q, hq, s⟩ := St.opt s1
    clear s1
    obtain ⟨us, hus, s⟩ := s.opt
    obtain ⟨hb, s⟩ := s.when
    obtain ⟨hin, s⟩ := s.ck
    rw [Bool.and_eq_true, Nat.beq_eq] at hb
    obtain ⟨_, hsz, hpos⟩ := elemA_und H.el
    rw [h2] at hsz; cases hsz
    simp only [inP, Bool.and_eq_true, decide_eq_true_eq] at hin
    have hlt : i.toNat < es.length := by omega
    have hru := cellsV_ok hus hy
    have hone := allCellA_ones hb.2 hru
    have hys : y.cells.size = sz' := by rw [← Array.length_toList, hru.len]; exact hb.1
    obtain ⟨_, F'', s'⟩ := St.set s
    have I := s.inv.setArr ho H hlt (norm_ok hq hy) hys hone
    refine ⟨_, ?_, hN.now (s' _ _ I) rel_undef⟩
    have hroom : i.toNat * sz' + sz' ≤ p.r := by rw [H.r, ← Nat.succ_mul]; exact Nat.mul_le_mul_right _ hlt
    have hyl : y.cells.toList.length = sz' := by rw [Array.length_toList, hys]
    have hcs : ∀ j, j < y.cells.toList.length → (w.cell? ⟨p.b, p.o + i.toNat * sz' + j, none⟩).isSome = true := fun j hj => by rw [Nat.add_assoc]; exact (H.free (i.toNat * sz' + j) (by omega)).1
    have hfz : ∀ j, j < y.cells.toList.length → w.frozen? ⟨p.b, p.o + i.toNat * sz' + j, none⟩ = false := fun j hj => by rw [Nat.add_assoc]; exact (H.free (i.toNat * sz' + j) (by omega)).2.1
    have := run_storeCells_cells (P := P) p.b (p.o + i.toNat * sz') y.cells.toList 0 w (by simpa using hcs) (by simpa using hfz) hone
    simpa [Instr.storeAt, Instr.sureAddr, storeVar, run_sz ok h2, hys] using this
end
end Px
end

section
namespace Px
open Go Go.RowKit
set_option linter.unusedVariables false
set_option linter.unusedSimpArgs false
section
variable {P : Program} {tb : Tab} {B : Bs} {Φ : Res → Prop} {cE : Nat} {b : Nat} {μ : Mu} {h : Hp} {t : T AObj} {c : Nat} {F : Foot} {w w' : World}
theorem alloc_cell (w : World) (xs : Array Value) (el : TypeId) (j : Nat) : (w.alloc (.cells xs el)).cell? ⟨w.heap.size, j, none⟩ = xs[j]? := by
  show (match (w.heap.push (.cells xs el (0, 0)))[w.heap.size]? with | some (.cells c _ _) => if (none : Option Nat).isSome then none else c[j]? | _ => none) = _
  rw [Array.getElem?_push_size]; simp
theorem alloc_frozen (w : World) (xs : Array Value) (el : TypeId) (j : Nat) : (w.alloc (.cells xs el)).frozen? ⟨w.heap.size, j, none⟩ = false := by
  show (match (w.heap.push (.cells xs el (0, 0)))[w.heap.size]? with | some (.cells _ _ (lo, hi)) => decide (lo ≤ j) && decide (j < hi) | _ => false) = _
  rw [Array.getElem?_push_size]; simp
theorem alloc_size (w : World) (o : Obj) : (w.alloc o).heap.size = w.heap.size + 1 := Array.size_push _
theorem Fr.alloc {S : Nat → Prop} {w0 w : World} (h : Fr S w0 w) (o : Obj) : Fr S w0 (w.alloc o) := ⟨h.os, h.tape, h.output, by rw [alloc_size]; have := h.size; omega, fun k hk hs => by rw [Below.heap_alloc _ _ _ (Nat.lt_of_lt_of_le hk h.size)]; exact h.block k hk hs⟩
theorem alloc_old (w : World) (o : Obj) {b j : Nat} (hb : b < w.heap.size) : (w.alloc o).cell? ⟨b, j, none⟩ = w.cell? ⟨b, j, none⟩ := World.cell?_of_block (Below.heap_alloc w o b hb)
/-- A new variable. -/
theorem St.newBox (hΦ : ∀ q, Φ q → q.2.2.1 ≤ cE) {ty : TypeId} {v : AV} {u : Value} {k : Nat → E} (s : St tb B Φ cE (.new (.box ty v) k) b μ t c F w) (hr : Rel tb μ v u) (hb : boxOk tb ty v = true) (el : TypeId) :
    ∃ μ1, Later μ c μ1 (c + 1) ∧ Rel tb μ1 (.ptr (some (c, 0))) (.pointer (some ⟨w.heap.size, 0, none⟩)) ∧ St tb B Φ cE (k c) b μ1 (t.put (.box ty v) c) (c + 1) F (w.alloc (.cells u.cells el)) := by
  obtain ⟨hk, hs, hone⟩ := boxOk_ok hb hr
  obtain ⟨hlt, hn, s'⟩ := St.new hΦ s
  obtain ⟨hp, hsl⟩ := s.inv.unmapped hn
  have hext : Ext μ (μ.setPl c ⟨w.heap.size, 0, u.cells.size⟩) := Ext.setPl hp
  have hpl : (μ.setPl c ⟨w.heap.size, 0, u.cells.size⟩).pl c = some ⟨w.heap.size, 0, u.cells.size⟩ := if_pos rfl
  refine ⟨_, ⟨by omega, hext⟩, ⟨_, hpl, rfl⟩, s' _ _ ?_⟩
  refine s.inv.upd (fun x => x = c) (s.inv.fr.alloc _) (by rw [alloc_size]; omega) (fun b hb _ => Below.heap_alloc _ _ _ hb) hext (fun x hx => ⟨if_neg hx, fun _ => rfl⟩) (fun _ _ _ hv => .inl hv)
    (fun b o v hv _ => by rw [alloc_old _ _ (World.block_lt_of_cell? w _ (s.inv.fz b o v hv).1)]; exact (s.inv.fz b o v hv).1)
    (fun x hx => upd_ne _ _ hx) (fun x hx => by subst hx; rw [upd_same]; simp) (fun x m v hx hv => ?_) (fun x o hx ho => ?_) (fun x b hx hb => ?_) (fun x y b hx hy hxy => (hxy (hx.trans hy.symm)).elim)
  · subst hx; have hv : μ.sl x m = some v := hv; rw [hsl m] at hv; cases hv
  · subst hx
    rw [upd_same] at ho; cases ho
    refine ⟨_, u, hpl, hr.mono hext, hk, hs, rfl, hone, fun j d hj => ?_, fun j hj => ?_⟩
    · show (w.alloc (.cells u.cells el)).cell? ⟨w.heap.size, 0 + j, none⟩ = _
      rw [Nat.zero_add, alloc_cell]; rwa [Array.getElem?_toList] at hj
    · refine ⟨alloc_frozen _ _ _ _, ?_⟩
      show μ.fz w.heap.size (0 + j) = none
      cases e : μ.fz w.heap.size (0 + j) with
      | none => rfl
      | some v => have := World.block_lt_of_cell? w _ (s.inv.fz _ _ _ e).1; simp at this
  · subst hx
    unfold Owns at hb; rw [upd_same] at hb
    obtain ⟨p', h1, h2⟩ := hb
    rw [hpl] at h1; cases h1; subst h2
    exact ⟨by rw [alloc_size]; show w.heap.size < _; omega, .inl (Nat.le_refl _)⟩
/-- A slice in a block of its own; what it holds never turns, what room it has may be appended to. -/
theorem Inv.newSlice (I : Inv tb B μ h w) {x ver : Nat} {ty e sz : TypeId} (hx : (h x = none ∧ ver = 0) ∨ ∃ t0 v0, h x = some (.vec t0 v0) ∧ ver = v0 + 1) (hel : elemA tb ty = some (e, sz)) {es : List PV} {xs : Array Value} (hes : ArrAt tb μ.fz e sz (fun o => xs[o]?) es 0) {cap : Nat} (hcap : es.length ≤ cap) (hroom : cap * sz ≤ xs.size) (el : TypeId) :
    ∃ μ1, Ext μ μ1 ∧ Rel tb μ1 (.vs x ver ty es) (.slice (some ⟨w.heap.size, 0, none⟩) es.length cap) ∧ Inv tb B μ1 (Px.upd h x (.vec ty ver)) (w.alloc (.cells xs el)) := by
  obtain ⟨hu, hsz, hpos⟩ := elemA_und hel
  simp only at hu hsz hpos
  have hle : es.length * sz ≤ cap * sz := Nat.mul_le_mul_right _ hcap
  have hzb : ∀ o v, μ.fz w.heap.size o = some v → False := fun o v hv => by have := World.block_lt_of_cell? w _ (I.fz _ _ _ hv).1; simp at this
  have hslx : μ.sl x ver = none := by
    cases e1 : μ.sl x ver with
    | none => rfl
    | some v =>
      obtain ⟨t0, v0, h1, h2⟩ := I.sdom x ver v e1
      rcases hx with ⟨h3, _⟩ | ⟨t1, v1, h3, h4⟩
      · rw [h3] at h1; cases h1
      · rw [h3] at h1; cases h1; omega
  let V : Value := .slice (some ⟨w.heap.size, 0, none⟩) es.length cap
  let μ1 : Mu := (μ.addFz w.heap.size 0 (es.length * sz) (w.alloc (.cells xs el))).setSl x ver V
  have hext : Ext μ μ1 := (Ext.addFz (w := w.alloc (.cells xs el)) (fun o v _ _ hv => (hzb o v hv).elim)).trans (Ext.setSl hslx)
  have hsl1 : μ1.sl x ver = some V := if_pos ⟨rfl, rfl⟩
  have hfz1 : ∀ b o, μ1.fz b o = if b = w.heap.size ∧ 0 ≤ o ∧ o < es.length * sz then (w.alloc (.cells xs el)).cell? ⟨b, o, none⟩ else μ.fz b o := fun _ _ => rfl
  have hg : ∀ j v, 0 ≤ j → j < 0 + es.length * sz → xs[j]? = some v → μ1.fz w.heap.size j = some v := fun j v h1 h2 hv => by
    rw [hfz1, if_pos ⟨rfl, h1, by omega⟩, alloc_cell]; exact hv
  have hrel : RelP tb μ1.fz ty (.node es) V := .inr (.inr ⟨e, some ⟨w.heap.size, 0, none⟩, cap, hu, rfl, hcap, .inr ⟨w.heap.size, 0, sz, rfl, hsz, (hes.mono hext.fz (fun j v _ _ h => h)).relE hg⟩⟩)
  refine ⟨μ1, hext, ⟨hrel, hsl1, e, hu⟩, ?_⟩
  refine I.upd (fun y => y = x) (I.fr.alloc _) (by rw [alloc_size]; omega) (fun b hb _ => Below.heap_alloc _ _ _ hb) hext (fun y hy => ⟨rfl, fun m => if_neg (fun e => hy e.1)⟩) (fun b o v hv => ?_)
    (fun b o v hv _ => by rw [alloc_old _ _ (World.block_lt_of_cell? w _ (I.fz b o v hv).1)]; exact (I.fz b o v hv).1)
    (fun y hy => upd_ne _ _ hy) (fun y hy => by subst hy; rw [upd_same]; simp) (fun y m v hy hv => ?_) (fun y o hy ho => ?_) (fun y b hy hb => ?_) (fun y z b hy hz hyz => (hyz (hy.trans hz.symm)).elim)
  · rw [hfz1] at hv
    split at hv
    · rename_i e1
      obtain ⟨e1, e2, e3⟩ := e1
      subst e1
      refine .inr ⟨.inl (Nat.le_refl _), hv, ?_⟩
      rw [alloc_cell] at hv
      exact arrAt_one hpos hes o v e2 (by omega) hv
    · exact .inl hv
  · subst hy
    refine ⟨ty, ver, upd_same .., ?_⟩
    by_cases e1 : m = ver
    · omega
    · have hv : (if y = y ∧ m = ver then some V else μ.sl y m) = some v := hv
      rw [if_neg (fun h => e1 h.2)] at hv
      obtain ⟨t0, v0, h1, h2⟩ := I.sdom y m v hv
      rcases hx with ⟨h3, _⟩ | ⟨t1, v1, h3, h4⟩
      · rw [h3] at h1; cases h1
      · rw [h3] at h1; cases h1; omega
  · subst hy
    rw [upd_same] at ho; cases ho
    refine ⟨some ⟨w.heap.size, 0, none⟩, es.length, cap, e, sz, hsl1, hel, hcap, (fun h => by cases h), fun hlt => ⟨w.heap.size, 0, rfl, fun j h1 h2 => ?_⟩⟩
    refine ⟨?_, alloc_frozen _ _ _ _, ?_⟩
    · rw [alloc_cell, Nat.zero_add, Array.getElem?_eq_getElem (by omega)]; rfl
    · rw [hfz1, if_neg (fun h => by omega)]
      cases e1 : μ.fz w.heap.size (0 + j) with
      | none => rfl
      | some v => exact (hzb _ _ e1).elim
  · subst hy
    unfold Owns at hb; rw [upd_same] at hb
    obtain ⟨o, n', c', h1, h2⟩ := hb
    rw [hsl1] at h1
    simp only [V, Option.some.injEq, Value.slice.injEq, Addr.mk.injEq] at h1
    rw [← h1.1.1]
    exact ⟨by rw [alloc_size]; omega, .inl (Nat.le_refl _)⟩
/-- A slice that is filled, new. -/
theorem St.newArr (hΦ : ∀ q, Φ q → q.2.2.1 ≤ cE) {ty e sz : TypeId} {es : List PV} {k : Nat → E} (s : St tb B Φ cE (.new (.arr ty es) k) b μ t c F w) (hel : elemA tb ty = some (e, sz)) {xs : Array Value} (hes : ArrAt tb μ.fz e sz (fun o => xs[o]?) es 0) (hroom : xs.size = es.length * sz) (el : TypeId) :
    ∃ μ1, Later μ c μ1 (c + 1) ∧ Rel tb μ1 (.ar c ty) (.slice (some ⟨w.heap.size, 0, none⟩) es.length es.length) ∧ St tb B Φ cE (k c) b μ1 (t.put (.arr ty es) c) (c + 1) F (w.alloc (.cells xs el)) := by
  obtain ⟨hlt, hn, s'⟩ := St.new hΦ s
  obtain ⟨hp, hsl⟩ := s.inv.unmapped hn
  have hext : Ext μ (μ.setPl c ⟨w.heap.size, 0, xs.size⟩) := Ext.setPl hp
  have hpl : (μ.setPl c ⟨w.heap.size, 0, xs.size⟩).pl c = some ⟨w.heap.size, 0, xs.size⟩ := if_pos rfl
  refine ⟨_, ⟨by omega, hext⟩, ⟨_, es.length, _, e, sz, hpl, hel, rfl, hroom, .inr rfl⟩, s' _ _ ?_⟩
  refine s.inv.upd (fun x => x = c) (s.inv.fr.alloc _) (by rw [alloc_size]; omega) (fun b hb _ => Below.heap_alloc _ _ _ hb) hext (fun x hx => ⟨if_neg hx, fun _ => rfl⟩) (fun _ _ _ hv => .inl hv)
    (fun b o v hv _ => by rw [alloc_old _ _ (World.block_lt_of_cell? w _ (s.inv.fz b o v hv).1)]; exact (s.inv.fz b o v hv).1)
    (fun x hx => upd_ne _ _ hx) (fun x hx => by subst hx; rw [upd_same]; simp) (fun x m v hx hv => ?_) (fun x o hx ho => ?_) (fun x b hx hb => ?_) (fun x y b hx hy hxy => (hxy (hx.trans hy.symm)).elim)
  · subst hx; have hv : μ.sl x m = some v := hv; rw [hsl m] at hv; cases hv
  · subst hx
    rw [upd_same] at ho; cases ho
    refine ⟨_, e, sz, hpl, hel, hroom, hes.mono hext.fz (fun j v _ _ hv => ?_), fun j hj => ?_⟩
    · show (w.alloc (.cells xs el)).cell? ⟨w.heap.size, j, none⟩ = _
      rw [alloc_cell]; exact hv
    · have hj : j < xs.size := hj
      refine ⟨?_, alloc_frozen _ _ _ _, ?_⟩
      · show ((w.alloc (.cells xs el)).cell? ⟨w.heap.size, 0 + j, none⟩).isSome = true
        rw [Nat.zero_add, alloc_cell, Array.getElem?_eq_getElem hj]; rfl
      · show μ.fz w.heap.size (0 + j) = none
        cases e : μ.fz w.heap.size (0 + j) with
        | none => rfl
        | some v => have := World.block_lt_of_cell? w _ (s.inv.fz _ _ _ e).1; simp at this
  · subst hx
    unfold Owns at hb; rw [upd_same] at hb
    obtain ⟨p', h1, h2⟩ := hb
    rw [hpl] at h1; cases h1; subst h2
    exact ⟨by rw [alloc_size]; show w.heap.size < _; omega, .inl (Nat.le_refl _)⟩
theorem arrAt_shift {fz fz' : Fz} (hz : ∀ b o v, fz b o = some v → fz' b o = some v) {e sz bk d : Nat} {g : Nat → Option Value} : ∀ {ps : List PV} {o : Nat}, (∀ j v, o ≤ j → j < o + ps.length * sz → g j = some v → fz' bk (d + j) = some v) → ArrAt tb fz e sz g ps o → RelE tb fz' e sz bk ps (d + o)
  | [], _, _, _ => trivial
  | p :: ps, o, hg, ⟨⟨u, h1, h2, h3, h4, h5⟩, h6⟩ => by
    have e1 : o + sz + ps.length * sz = o + (ps.length + 1) * sz := by rw [Nat.succ_mul]; omega
    refine ⟨⟨u, RelP.mono tb hz e p u h1, h2, h3, fun j c hj => ?_⟩, by rw [Nat.add_assoc]; exact arrAt_shift hz (fun j v hj hj' hv => hg j v (by omega) (by rw [List.length_cons, ← e1]; exact hj') hv) h6⟩
    have hlt := (List.getElem?_eq_some_iff.1 hj).1
    rw [Array.length_toList, h3] at hlt
    rw [Nat.add_assoc]
    exact hg _ _ (by omega) (by rw [List.length_cons, ← e1]; omega) (h5 j c hj)
/-- More elements, in the room that a slice has. -/
theorem Inv.appendIn (I : Inv tb B μ h w) {x ver : Nat} {ty e sz : TypeId} {A0 : Option Addr} {n cap : Nat} {es qs : List PV} (ho : h x = some (.vec ty ver)) (hel : elemA tb ty = some (e, sz)) (hsl : μ.sl x ver = some (.slice A0 n cap)) (hn : es.length = n) (hr : RelP tb μ.fz ty (.node es) (.slice A0 n cap))
    {ys : List Value} (hqs : ArrAt tb μ.fz e sz (fun o => ys[o]?) qs 0) (hyl : ys.length = qs.length * sz) (hq : qs ≠ []) (hcap : n + qs.length ≤ cap) :
    ∃ bk o0, A0 = some ⟨bk, o0, none⟩ ∧ (∀ j, j < ys.length → (w.cell? ⟨bk, o0 + n * sz + j, none⟩).isSome = true) ∧ (∀ j, j < ys.length → w.frozen? ⟨bk, o0 + n * sz + j, none⟩ = false) ∧
      ∃ μ1, Ext μ μ1 ∧ Rel tb μ1 (.vs x (ver + 1) ty (es ++ qs)) (.slice A0 (n + qs.length) cap) ∧ Inv tb B μ1 (Px.upd h x (.vec ty (ver + 1))) (w.setCells bk (o0 + n * sz) ys) := by
  obtain ⟨hu, hsz, hpos⟩ := elemA_und hel
  simp only at hu hsz hpos
  obtain ⟨A, n1, c1, e1, sz1, H⟩ := I.obj x _ ho
  have h1 := H.el
  rw [hel] at h1; cases h1
  have h2 := H.sl
  rw [hsl] at h2; cases h2
  have hm : 0 < qs.length := List.length_pos_iff.2 hq
  obtain ⟨bk, o0, hA, hf⟩ := H.free (by omega)
  subst hA
  have hown : Owns μ h x bk := by unfold Owns; rw [ho]; exact ⟨o0, n, cap, hsl, by omega⟩
  have hbase := I.base x bk hown
  have hend : n * sz + ys.length ≤ cap * sz := by rw [hyl, ← Nat.add_mul]; exact Nat.mul_le_mul_right _ hcap
  have hcs : ∀ j, j < ys.length → (w.cell? ⟨bk, o0 + n * sz + j, none⟩).isSome = true := fun j hj => by rw [Nat.add_assoc]; exact (hf (n * sz + j) (by omega) (by omega)).1
  have hfs : ∀ j, j < ys.length → w.frozen? ⟨bk, o0 + n * sz + j, none⟩ = false := fun j hj => by rw [Nat.add_assoc]; exact (hf (n * sz + j) (by omega) (by omega)).2.1
  refine ⟨bk, o0, rfl, hcs, hfs, ?_⟩
  have hin : ∀ j, j < ys.length → (w.setCells bk (o0 + n * sz) ys).cell? ⟨bk, o0 + n * sz + j, none⟩ = ys[j]? := fun j hj => by
    rw [World.cell?_setCells_in bk ys (o0 + n * sz) w hcs j hj, List.getElem?_eq_getElem hj]
  have hout : ∀ j, ¬ (o0 + n * sz ≤ j ∧ j < o0 + n * sz + ys.length) → (w.setCells bk (o0 + n * sz) ys).cell? ⟨bk, j, none⟩ = w.cell? ⟨bk, j, none⟩ := fun j hj => World.cell?_setCells_out bk _ (o0 + n * sz) w ⟨bk, j, none⟩ (fun _ _ => by show j < o0 + n * sz ∨ o0 + n * sz + ys.length ≤ j; omega)
  have hnone : ∀ j, o0 + n * sz ≤ j → j < o0 + n * sz + ys.length → μ.fz bk j = none := fun j h1 h2 => by
    have := (hf (j - o0) (by omega) (by omega)).2.2
    rwa [show o0 + (j - o0) = j by omega] at this
  have hslx : μ.sl x (ver + 1) = none := by
    cases e1 : μ.sl x (ver + 1) with
    | none => rfl
    | some v => obtain ⟨t0, v0, h1, h2⟩ := I.sdom x _ v e1; rw [ho] at h1; cases h1; omega
  let V : Value := .slice (some ⟨bk, o0, none⟩) (n + qs.length) cap
  let μ1 : Mu := (μ.addFz bk (o0 + n * sz) (o0 + n * sz + ys.length) (w.setCells bk (o0 + n * sz) ys)).setSl x (ver + 1) V
  have hext : Ext μ μ1 := (Ext.addFz (w := w.setCells bk (o0 + n * sz) ys) (fun o v h1 h2 hv => by rw [hnone o h1 h2] at hv; cases hv)).trans (Ext.setSl hslx)
  have hsl1 : μ1.sl x (ver + 1) = some V := if_pos ⟨rfl, rfl⟩
  have hfz1 : ∀ b o, μ1.fz b o = if b = bk ∧ o0 + n * sz ≤ o ∧ o < o0 + n * sz + ys.length then (w.setCells bk (o0 + n * sz) ys).cell? ⟨b, o, none⟩ else μ.fz b o := fun _ _ => rfl
  have hqe : RelE tb μ1.fz e sz bk qs (o0 + n * sz) := by
    have := arrAt_shift (fz' := μ1.fz) hext.fz (d := o0 + n * sz) (bk := bk) (o := 0) (fun j v h1 h2 hv => by
      rw [hfz1, if_pos ⟨rfl, by omega, by rw [hyl]; omega⟩, hin j (by rw [hyl]; omega)]; exact hv) hqs
    simpa using this
  have hrel : RelP tb μ1.fz ty (.node (es ++ qs)) V := by
    refine .inr (.inr ⟨e, some ⟨bk, o0, none⟩, cap, hu, by rw [List.length_append, hn], by rw [List.length_append, hn]; exact hcap, .inr ⟨bk, o0, sz, rfl, hsz, relE_append.2 ⟨?_, by rw [hn]; exact hqe⟩⟩⟩)
    obtain ⟨_, A', c', e2, _, h4⟩ := relP_slice hu (RelP.mono tb hext.fz ty _ _ hr)
    simp only [Value.slice.injEq] at e2
    obtain ⟨e3, _, _⟩ := e2
    rcases h4 with h4 | ⟨b', o', sz', h5, h6, h7⟩
    · rw [show es = [] from h4]; trivial
    · rw [← e3] at h5
      simp only [Option.some.injEq, Addr.mk.injEq] at h5
      obtain ⟨rfl, rfl, _⟩ := h5
      rw [hsz] at h6; cases h6
      exact h7
  refine ⟨μ1, hext, ⟨hrel, hsl1, e, hu⟩, ?_⟩
  refine I.upd (fun y => y = x) (I.fr.setCells hbase.2 _ _) (by rw [setCells_size]; exact Nat.le_refl _) (fun b hb hn => setCells_other _ _ _ _ hb (fun e => hn x rfl (e ▸ hown))) hext (fun y hy => ⟨rfl, fun m => if_neg (fun e => hy e.1)⟩) (fun b o v hv => ?_) (fun b o v hv ⟨y, hy, hyo⟩ => ?_)
    (fun y hy => upd_ne _ _ hy) (fun y hy => by subst hy; rw [upd_same]; simp) (fun y m v hy hv => ?_) (fun y o hy ho2 => ?_) (fun y b hy hb => ?_) (fun y z b hy hz hyz => (hyz (hy.trans hz.symm)).elim)
  · rw [hfz1] at hv
    split at hv
    · rename_i e1
      obtain ⟨e1, e2, e3⟩ := e1
      subst e1
      refine .inr ⟨.inr ⟨x, rfl, hown⟩, hv, ?_⟩
      have := hin (o - (o0 + n * sz)) (by omega)
      rw [show o0 + n * sz + (o - (o0 + n * sz)) = o by omega, hv] at this
      exact arrAt_one hpos hqs (o - (o0 + n * sz)) v (Nat.zero_le _) (by rw [Nat.zero_add, ← hyl]; omega) this.symm
    · exact .inl hv
  · subst hy
    by_cases hb : b = bk
    · subst hb
      rw [hout o (fun hcon => by rw [hnone o hcon.1 hcon.2] at hv; cases hv)]; exact (I.fz _ _ _ hv).1
    · rw [World.cell?_of_block (setCells_other _ _ _ _ (World.block_lt_of_cell? w _ (I.fz b o v hv).1) hb)]; exact (I.fz _ _ _ hv).1
  · subst hy
    refine ⟨ty, ver + 1, upd_same .., ?_⟩
    by_cases e1 : m = ver + 1
    · omega
    · have hv : (if y = y ∧ m = ver + 1 then some V else μ.sl y m) = some v := hv
      rw [if_neg (fun h => e1 h.2)] at hv
      obtain ⟨t0, v0, h1, h2⟩ := I.sdom y m v hv
      rw [ho] at h1; cases h1; omega
  · subst hy
    rw [upd_same] at ho2; cases ho2
    refine ⟨some ⟨bk, o0, none⟩, n + qs.length, cap, e, sz, hsl1, hel, hcap, (fun h => by cases h), fun hlt => ⟨bk, o0, rfl, fun j h1 h2 => ?_⟩⟩
    have hj : n * sz + ys.length ≤ j := by rw [hyl, ← Nat.add_mul]; exact h1
    obtain ⟨f1, f2, f3⟩ := hf j (by omega) h2
    refine ⟨by rw [hout _ (by omega)]; exact f1, by rw [World.frozen?_setCells]; exact f2, ?_⟩
    rw [hfz1, if_neg (by omega)]; exact f3
  · subst hy
    unfold Owns at hb; rw [upd_same] at hb
    obtain ⟨o, n', c', h1, h2⟩ := hb
    rw [hsl1] at h1
    simp only [V, Option.some.injEq, Value.slice.injEq, Addr.mk.injEq] at h1
    rw [← h1.1.1]
    exact ⟨by rw [setCells_size]; exact hbase.1, .inr ⟨y, rfl, hown⟩⟩
end
end Px
end

section
namespace Px
open Go Go.RowKit
set_option linter.unusedVariables false
set_option linter.unusedSimpArgs false
section
variable {P : Program} {tb : Tab} {B : Bs} {Φ : Res → Prop} {cE : Nat} {b : Nat} {μ : Mu} {h : Hp} {t : T AObj} {c : Nat} {F : Foot} {w w' : World}
theorem alloc_world (w : World) (o : Obj) : ({ w with heap := w.heap.push o } : World) = w.alloc o := rfl
theorem allocOp_ok {q : Bool} (ok : TabOk P tb) (hΦ : ∀ q, Φ q → q.2.2.1 ≤ cE) {e : TypeId} {k : AV → E} {N : Value → World → Prop} (s : St tb B Φ cE (opt 304 (zeroA tb e) fun z => phanG tb q e z fun z => bif boxOk tb e z then .new (.box e z) fun c => k (.ptr (some (c, 0))) else .fail 304) b μ t c F w) (hN : Then tb B Φ cE b k μ c N) : Runs P (Instr.alloc e true (.tuple #[])) w N := by
  obtain ⟨z, hz, s⟩ := St.opt s
  obtain ⟨i, zv, hi, hzv, hr⟩ := zeroA_ok ok hz
  obtain ⟨μ1, t1, c1, z1, l1, hr1, _, s⟩ := phanG_ok hΦ s (hr μ)
  obtain ⟨hb, s⟩ := s.when
  obtain ⟨μ2, l2, r2, s2⟩ := St.newBox hΦ s hr1 hb e
  refine .of ?_ (hN _ _ _ _ _ _ _ s2 (l1.trans l2) r2)
  simp [Instr.alloc, run_zero hi hzv, newVar, newRow, alloc_world]
theorem boxOp_ok {q : Bool} (hΦ : ∀ q, Φ q → q.2.2.1 ≤ cE) {e : TypeId} {v : AV} {u : Value} (hu : Rel tb μ v u) {k : AV → E} {N : Value → World → Prop} (s : St tb B Φ cE (frzE v fun v => phanG tb q e v fun v => bif boxOk tb e v then .new (.box e v) fun c => k (.ptr (some (c, 0))) else .fail 305) b μ t c F w) (hN : Then tb B Φ cE b k μ c N) : Runs P (Instr.box e u) w N := by
  obtain ⟨μ0, t0, F0, v0, l0, hr0, s⟩ := frzE_ok s hu
  obtain ⟨μ1, t1, c1, z1, l1, hr1, _, s⟩ := phanG_ok hΦ s hr0
  obtain ⟨hb, s⟩ := s.when
  obtain ⟨μ2, l2, r2, s2⟩ := St.newBox hΦ s hr1 hb e
  refine .of ?_ (hN _ _ _ _ _ _ _ s2 (l0.trans (l1.trans l2)) r2)
  simp [Instr.box, newVar, newRow, alloc_world]
/-- Elements' cells, in a row. -/
theorem relE_cells {fz : Fz} (hone : ∀ b o v, fz b o = some v → v.oneCell' = true) {e sz bk : Nat} : ∀ {ps : List PV} {o : Nat}, RelE tb fz e sz bk ps o → ∃ news : List Value, news.length = ps.length * sz ∧ (∀ j v, news[j]? = some v → fz bk (o + j) = some v) ∧ ∀ d (g : Nat → Option Value), (∀ j v, news[j]? = some v → g (d + j) = some v) → ArrAt tb fz e sz g ps d
  | [], o, _ => ⟨[], by simp, fun j v h => by simp at h, fun d g _ => trivial⟩
  | p :: ps, o, ⟨⟨u, h1, h2, h3, h4⟩, h5⟩ => by
    obtain ⟨news, k1, k2, k3⟩ := relE_cells hone h5
    have hl : u.cells.toList.length = sz := by rw [Array.length_toList, h3]
    have hcell : ∀ j v, (u.cells.toList ++ news)[j]? = some v → fz bk (o + j) = some v := fun j v hv => by
      by_cases hj : j < sz
      · rw [List.getElem?_append_left (by omega)] at hv; exact h4 j v hv
      · rw [List.getElem?_append_right (by omega), hl] at hv
        have := k2 _ v hv
        rwa [show o + sz + (j - sz) = o + j by omega] at this
    refine ⟨u.cells.toList ++ news, by rw [List.length_append, hl, k1, List.length_cons, Nat.succ_mul]; omega, hcell, fun d g hg => ⟨⟨u, h1, h2, h3, fun c hc => ?_, fun j c hj => ?_⟩, k3 (d + sz) g fun j v hv => ?_⟩⟩
    · obtain ⟨j, hj⟩ := List.mem_iff_getElem?.1 hc
      exact hone _ _ _ (h4 j c hj)
    · exact hg j c (by rw [List.getElem?_append_left (List.getElem?_eq_some_iff.1 hj).1]; exact hj)
    · have := hg (sz + j) v (by rw [List.getElem?_append_right (by omega), hl, Nat.add_sub_cancel_left]; exact hv)
      rwa [← Nat.add_assoc] at this
theorem arrAt_append {fz : Fz} {e sz : Nat} {g : Nat → Option Value} : ∀ {ps qs : List PV} {o : Nat}, ArrAt tb fz e sz g ps o → ArrAt tb fz e sz g qs (o + ps.length * sz) → ArrAt tb fz e sz g (ps ++ qs) o
  | [], qs, o, _, h => by simpa using h
  | p :: ps, qs, o, ⟨h1, h2⟩, h => ⟨h1, arrAt_append h2 (by rw [List.length_cons, Nat.succ_mul, show ps.length * sz + sz = sz + ps.length * sz by omega, ← Nat.add_assoc] at h; exact h)⟩
/-- What is appended: elements, their cells. -/
structure SrcIs (P : Program) (tb : Tab) (fz : Fz) (e sz tx : Nat) (u : Value) (xs : List PV) (news : List Value) (w : World) : Prop where
  src : Src P sz tx u xs.length news w
  arr : ∀ d (g : Nat → Option Value), (∀ j v, news[j]? = some v → g (d + j) = some v) → ArrAt tb fz e sz g xs d
theorem bytes_arr {fz : Fz} {e : TypeId} (hu : und tb e = some (.int .u8)) : ∀ (l : List UInt8) (d : Nat) (g : Nat → Option Value), (∀ j v, (l.map fun b => Value.int .u8 b.toNat)[j]? = some v → g (d + j) = some v) → ArrAt tb fz e 1 g (bytesP (l.map UInt8.toNat)) d
  | [], d, g, _ => trivial
  | x :: l, d, g, hg => by
    refine ⟨⟨.int .u8 x.toNat, ⟨.u8, hu, rfl⟩, .inr ⟨agg_int hu, rfl⟩, rfl, fun c hc => ?_, fun j c hj => ?_⟩, bytes_arr hu l (d + 1) g fun j v hv => ?_⟩
    · rw [show (Value.int .u8 (x.toNat : Int)).cells.toList = [.int .u8 x.toNat] from rfl] at hc
      rw [List.mem_singleton.1 hc]; rfl
    · rw [show (Value.int .u8 (x.toNat : Int)).cells.toList = [.int .u8 x.toNat] from rfl] at hj
      cases j with
      | zero => simp at hj; subst hj; exact hg 0 _ rfl
      | succ j => simp at hj
    · have := hg (j + 1) v (by simpa using hv)
      rwa [show d + (j + 1) = d + 1 + j by omega] at this
theorem src_slice (ok : TabOk P tb) (I : Inv tb B μ h w) {ty tx e sz e' : Nat} (hel : elemA tb ty = some (e, sz)) (hk : P.underlying tx = some (.slice e')) {p : PV} {u : Value} (hr : RelP tb μ.fz ty p u) : ∃ news, SrcIs P tb μ.fz e sz tx u p.l news w := by
  obtain ⟨hu, hsz, hpos⟩ := elemA_und hel
  simp only at hu hsz hpos
  obtain ⟨_, A, c, rfl, hle, h4⟩ := relP_slice hu hr
  rcases h4 with h4 | ⟨bk, o, sz', rfl, h5, h6⟩
  · rw [h4]
    refine ⟨[], ?_, fun d g _ => trivial⟩
    cases A with
    | none => exact Src.ofNil w hk c
    | some ad => exact Src.ofSlice w hk ad 0 c [] (by simp) (fun j v h => by simp at h) (fun v h => by cases h)
  · rw [hsz] at h5; cases h5
    obtain ⟨news, k1, k2, k3⟩ := relE_cells (fun b o v hv => (I.fz b o v hv).2) h6
    refine ⟨news, Src.ofSlice w hk ⟨bk, o, none⟩ _ c news k1 (fun j v hv => ?_) (fun v hv => ?_), k3⟩
    · show w.cell? ((⟨bk, o, none⟩ : Addr).add j) = some v
      rw [addr_add]; exact (I.fz _ _ _ (k2 j v hv)).1
    · obtain ⟨j, hj⟩ := List.mem_iff_getElem?.1 hv
      exact (I.fz _ _ _ (k2 j v hj)).2
theorem srcOf_ok (ok : TabOk P tb) (I : Inv tb B μ h w) {ty tx e sz : Nat} (hel : elemA tb ty = some (e, sz)) {x : AV} {xs : List PV} (hxs : srcOf tb ty tx e sz x = some xs) {u : Value} (hx : Rel tb μ x u) : ∃ news, SrcIs P tb μ.fz e sz tx u xs news w := by
  unfold srcOf at hxs
  cases ek : und tb tx with
  | none => rw [ek] at hxs; cases x <;> cases hxs
  | some d =>
    rw [ek] at hxs
    have hk := und_ok ok ek
    cases d <;> first | (cases x <;> cases hxs; done) | skip
    · cases x with
      | str s1 =>
        simp only at hxs
        cases e1 : und tb e with
        | none => rw [e1] at hxs; cases hxs
        | some d1 =>
          rw [e1] at hxs
          cases d1 <;> first | (cases hxs; done) | skip
          rename_i kk
          cases kk <;> first | (cases hxs; done) | skip
          simp only at hxs
          cases e2 : Nat.beq sz 1 with
          | false => rw [e2] at hxs; cases hxs
          | true =>
            rw [e2] at hxs
            simp only [cond_true, Option.some.injEq] at hxs
            have e3 : sz = 1 := by rwa [Nat.beq_eq] at e2
            obtain ⟨ba, rfl, rfl⟩ := hx
            subst hxs; subst e3
            refine ⟨byteCells ba, ?_, bytes_arr e1 ba.data.toList⟩
            have := Src.ofString (P := P) w hk ba
            rwa [show ba.size = (bytesP (bytesN ba)).length by unfold bytesP bytesN; rw [List.length_map, List.length_map, Array.length_toList]; rfl] at this
      | _ => cases hxs
    · cases x with
      | nils =>
        simp only [Option.some.injEq] at hxs; subst hxs
        have eu : u = .slice none 0 0 := hx
        rw [eu]
        exact ⟨[], Src.ofNil w hk 0, fun d g _ => trivial⟩
      | pv t' q =>
        simp only at hxs
        cases e1 : Nat.beq ty t' with
        | false => rw [e1] at hxs; cases hxs
        | true =>
          rw [e1] at hxs
          simp only [cond_true, Option.some.injEq] at hxs
          have e2 : ty = t' := by rwa [Nat.beq_eq] at e1
          subst hxs; subst e2
          exact src_slice ok I hel hk hx
      | vs y ver t' es =>
        simp only at hxs
        cases e1 : Nat.beq ty t' with
        | false => rw [e1] at hxs; cases hxs
        | true =>
          rw [e1] at hxs
          simp only [cond_true, Option.some.injEq] at hxs
          have e2 : ty = t' := by rwa [Nat.beq_eq] at e1
          subst hxs; subst e2
          exact src_slice ok I hel hk hx.1
      | _ => cases hxs
/-- The same slice once more: another version of its right. -/
theorem Inv.again (I : Inv tb B μ h w) {x ver : Nat} {ty : TypeId} (ho : h x = some (.vec ty ver)) {v : Value} (hsl : μ.sl x ver = some v) :
    ∃ μ1, Ext μ μ1 ∧ μ1.fz = μ.fz ∧ μ1.sl x (ver + 1) = some v ∧ Inv tb B μ1 (Px.upd h x (.vec ty (ver + 1))) w := by
  have hslx : μ.sl x (ver + 1) = none := by
    cases e1 : μ.sl x (ver + 1) with
    | none => rfl
    | some v => obtain ⟨t0, v0, h1, h2⟩ := I.sdom x _ v e1; rw [ho] at h1; cases h1; omega
  have hext : Ext μ (μ.setSl x (ver + 1) v) := Ext.setSl hslx
  have hsl1 : (μ.setSl x (ver + 1) v).sl x (ver + 1) = some v := if_pos ⟨rfl, rfl⟩
  have hown : ∀ b, Owns (μ.setSl x (ver + 1) v) (Px.upd h x (.vec ty (ver + 1))) x b → Owns μ h x b := fun b hb => by
    unfold Owns at hb ⊢
    rw [upd_same] at hb
    rw [ho]
    obtain ⟨o, n, c, h1, h2⟩ := hb
    rw [hsl1] at h1; cases h1
    exact ⟨o, n, c, hsl, h2⟩
  refine ⟨_, hext, rfl, hsl1, I.upd (fun y => y = x) I.fr (Nat.le_refl _) (fun b _ _ => rfl) hext (fun y hy => ⟨rfl, fun m => if_neg (fun e => hy e.1)⟩) (fun _ _ _ hv => .inl hv) (fun b o v hv _ => (I.fz b o v hv).1)
    (fun y hy => upd_ne _ _ hy) (fun y hy => by subst hy; rw [upd_same]; simp) (fun y m v' hy hv => ?_) (fun y o hy ho2 => ?_) (fun y b hy hb => ?_) (fun y z b hy hz hyz => (hyz (hy.trans hz.symm)).elim)⟩
  · subst hy
    refine ⟨ty, ver + 1, upd_same .., ?_⟩
    by_cases e1 : m = ver + 1
    · omega
    · have hv : (if y = y ∧ m = ver + 1 then some v else μ.sl y m) = some v' := hv
      rw [if_neg (fun h => e1 h.2)] at hv
      obtain ⟨t0, v0, h1, h2⟩ := I.sdom y m v' hv
      rw [ho] at h1; cases h1; omega
  · subst hy
    rw [upd_same] at ho2; cases ho2
    obtain ⟨A, n, c, e, sz, H⟩ := I.obj y _ ho
    have := H.sl
    rw [hsl] at this; cases this
    exact ⟨A, n, c, e, sz, hsl1, H.el, H.le, H.nil, H.free⟩
  · subst hy
    have := hown b hb
    exact ⟨(I.base y b this).1, .inr ⟨y, rfl, this⟩⟩
theorem growFit {tb : Tab} (ok : TabOk P tb) {el : TypeId} {i : TypeInfo} (hi : P.info? el = some i) (hn : narrow tb el = true) {n cap : Nat} (h1 : n < 2000001) (h2 : cap < n) : Builtin.nextslicecap n cap * i.bytes ≤ 281474976710656 := by
  unfold narrow at hn
  cases e : tb.ty.look el with
  | none => rw [e] at hn; cases hn
  | some j =>
    rw [e] at hn
    have := ok.ty el j e
    rw [hi] at this; cases this
    simp only [Nat.ble_eq] at hn
    have h3 := nextslicecap_le h2
    calc Builtin.nextslicecap n cap * i.bytes ≤ (2 * n) * 100000 := Nat.mul_le_mul h3 hn
      _ ≤ 281474976710656 := by omega
/-- A new row of what was and what is appended, with room that the tape tells. -/
theorem Inv.grown (I : Inv tb B μ h w) {x ver : Nat} {ty e sz : TypeId} (hx : (h x = none ∧ ver = 0) ∨ ∃ t0 v0, h x = some (.vec t0 v0) ∧ ver = v0 + 1) (hel : elemA tb ty = some (e, sz)) {es : List PV} {zv : Value} (hz : zv.cells.size = sz) {all : List Value} (hall : all.length = es.length * sz) (harr : ∀ (g : Nat → Option Value), (∀ j v, all[j]? = some v → g (0 + j) = some v) → ArrAt tb μ.fz e sz g es 0) (scap : Nat) :
    ∃ μ1, Ext μ μ1 ∧ Rel tb μ1 (.vs x ver ty es) (.slice (some ⟨w.heap.size, 0, none⟩) es.length (grownCap w es.length scap e)) ∧ Inv tb B μ1 (Px.upd h x (.vec ty ver)) (w.drew.alloc (.cells (all.toArray ++ Builtin.zeroCells zv.cells (grownCap w es.length scap e - es.length)) e)) := by
  have hge := grownCap_ge w es.length scap e
  have I' : Inv tb B μ h w.drew := I.still (Fr.drew I.fr) rfl
  refine I'.newSlice hx hel (harr _ fun j v hv => ?_) hge ?_ e
  · rw [Nat.zero_add, Array.getElem?_append_left (by rw [List.size_toArray]; exact (List.getElem?_eq_some_iff.1 hv).1)]
    simpa using hv
  · simp only [Array.size_append, size_zeroCells, hz, List.size_toArray, hall]
    rw [← Nat.add_mul]
    exact Nat.mul_le_mul_right _ (by omega)
theorem append_ok (ok : TabOk P tb) (hΦ : ∀ q, Φ q → q.2.2.1 ≤ cE) {ty tx rt : TypeId} {s0 x : AV} {v0 u : Value} {k : AV → E} {N : Value → World → Prop} (s : St tb B Φ cE (appendE tb ty tx s0 x k) b μ t c F w) (hs0 : Rel tb μ s0 v0) (hx : Rel tb μ x u) (hN : Then tb B Φ cE b k μ c N) :
    Runs P (Builtin.append_ #[ty, tx] rt #[v0, u]) w N := by
  unfold appendE at s
  obtain ⟨pe, hel, s⟩ := St.opt s
  obtain ⟨e, sz⟩ := pe
  obtain ⟨hun, hu, hsz, hpos⟩ := elemA_ok ok hel
  simp only at hun hu hsz hpos
  obtain ⟨z, hz, s⟩ := St.opt s
  obtain ⟨zs, hzs, s⟩ := St.opt s
  obtain ⟨i, zv, hi, hzv, hzr⟩ := zeroA_ok ok hz
  obtain ⟨hb, s⟩ := St.when s
  simp only [Bool.and_eq_true, Nat.beq_eq] at hb
  obtain ⟨hnar, hzl⟩ := hb
  have hzsz : zv.cells.size = sz := by rw [← hzl, ← (cellsV_ok hzs (hzr μ)).len, Array.length_toList]
  have hisz : i.size = sz := by obtain ⟨i', hi', e'⟩ := szA_ok ok hsz; rw [hi] at hi'; cases hi'; exact e'
  obtain ⟨xs, hxs, s⟩ := St.opt s
  obtain ⟨news, hsrc⟩ := srcOf_ok ok s.inv hel hxs hx
  have hsrc' : Src P i.size tx u xs.length news w := by rw [hisz]; exact hsrc.src
  have hnl := hsrc.src.newsLen
  cases s0 with
  | nils =>
    -- onto nothing
    have ev : v0 = .slice none 0 0 := hs0
    subst ev
    obtain ⟨hsm, s⟩ := St.ck (n := 172) s
    simp only [smallP, Nat.blt_eq, List.length_nil, Nat.zero_add] at hsm
    cases hxe : xs with
    | nil =>
      subst hxe
      have en : news = [] := List.eq_nil_of_length_eq_zero (by rw [hnl]; simp)
      subst en
      obtain ⟨μ1, l1, r1, s1⟩ := St.phanNil hΦ s hel
      exact .of (run_append_nothing w ty tx rt e i hu hi none 0 0 (Nat.le_refl _) u hsrc') (hN _ _ _ _ _ _ _ s1 l1 r1)
    | cons x0 xs0 =>
      have hl0 : 0 < xs.length := by rw [hxe]; simp
      have hr := run_append_grow_src w ty tx rt e i zv hu hi hzv none 0 0 [] (run_firstCells_none w.drew i.size 0 0 0) u xs.length news hsrc' (by omega) (by omega) (by simpa using growFit ok hi hnar (n := xs.length) (cap := 0) (by omega) (by omega))
      simp only [Nat.zero_add, List.nil_append] at hr
      obtain ⟨hlt, hn, s'⟩ := St.new hΦ s
      obtain ⟨μ1, x1, r1, I1⟩ := s.inv.grown (.inl ⟨hn, rfl⟩) hel hzsz hnl (fun g hg => hsrc.arr 0 g hg) 0
      exact .of hr (hN _ _ _ _ _ _ _ (s' _ _ I1) ⟨by omega, x1⟩ r1)
  | vs y ver t' es =>
    obtain ⟨hr0, hsl, e0, he0⟩ := hs0
    obtain ⟨hb, s1⟩ := St.when (n := 176) s
    clear s
    rw [Nat.beq_eq] at hb
    subst hb
    obtain ⟨hy, o, ho, F', s⟩ := St.get s1
    clear s1
    cases o with
    | vec t0 cur =>
      obtain ⟨hb, s1⟩ := St.when (n := 174) s
      clear s
      rw [Bool.and_eq_true, Nat.beq_eq, Nat.beq_eq] at hb
      obtain ⟨rfl, rfl⟩ := hb
      obtain ⟨hsm, s⟩ := St.ck (n := 173) s1
      clear s1
      simp only [smallP, Nat.blt_eq] at hsm
      obtain ⟨_, F'', s'⟩ := St.set s
      have I := s.inv
      obtain ⟨_, A, cp, rfl, hle, h4⟩ := relP_slice hun hr0
      replace hle : es.length ≤ cp := hle
      replace h4 : es = [] ∨ ∃ b o sz, A = some ⟨b, o, none⟩ ∧ szA tb e = some sz ∧ RelE tb μ.fz e sz b es o := h4
      show Runs P (Builtin.append_ #[t0, tx] rt #[.slice A es.length cp, u]) w N
      have hsl : μ.sl y cur = some (.slice A es.length cp) := hsl
      have hr0 : RelP tb μ.fz t0 (.node es) (.slice A es.length cp) := hr0
      by_cases hxe : xs = []
      · subst hxe
        have en : news = [] := List.eq_nil_of_length_eq_zero (by rw [hnl]; simp)
        subst en
        obtain ⟨μ1, x1, f1, h1, I1⟩ := I.again ho hsl
        refine .of (run_append_nothing w t0 tx rt e i hu hi A es.length cp hle u hsrc') (hN _ _ _ _ _ _ _ (s' _ _ I1) ⟨Nat.le_refl _, x1⟩ ⟨?_, h1, e, hun⟩)
        show RelP tb μ1.fz t0 (.node (es ++ [])) _
        rw [f1, List.append_nil]; exact hr0
      · have hl0 : 0 < xs.length := List.length_pos_iff.2 hxe
        by_cases hroom : es.length + xs.length ≤ cp
        · obtain ⟨bk, o0, hA, hcs, hfs, μ1, x1, r1, I1⟩ := I.appendIn ho hel hsl rfl hr0 (ys := news) (hsrc.arr 0 _ fun j v hv => by rw [Nat.zero_add]; exact hv) hnl hxe hroom
          subst hA
          have := run_append_room_src w t0 tx rt e i hu hi bk o0 es.length cp u xs.length news hsrc' hroom (by rw [hisz]; exact hcs) (by rw [hisz]; exact hfs)
          rw [hisz] at this
          exact .of this (hN _ _ _ _ _ _ _ (s' _ _ I1) ⟨Nat.le_refl _, x1⟩ r1)
        · -- the cells that were
          obtain ⟨olds, k1, k2, k3⟩ : ∃ olds : List Value, olds.length = es.length * sz ∧ (Builtin.firstCells i.size es.length (.slice A es.length cp)).run P w.drew = .ok olds.toArray w.drew ∧ ∀ d (g : Nat → Option Value), (∀ j v, olds[j]? = some v → g (d + j) = some v) → ArrAt tb μ.fz e sz g es d := by
            rcases h4 with h4 | ⟨bk, o0, sz', hA, h5, h6⟩
            · rw [h4]
              refine ⟨[], by simp, ?_, fun d g _ => trivial⟩
              cases A with
              | none => exact run_firstCells_none w.drew i.size 0 0 cp
              | some ad => exact run_firstCells_some w.drew i.size 0 ad 0 cp [] (by simp) (fun j v h => by simp at h)
            · rw [hsz] at h5; cases h5
              obtain ⟨olds, k1, k2, k3⟩ := relE_cells (fun b o v hv => (I.fz b o v hv).2) h6
              refine ⟨olds, k1, ?_, k3⟩
              subst hA
              rw [hisz]
              refine run_firstCells_some w.drew sz es.length ⟨bk, o0, none⟩ es.length cp olds k1 fun j v hv => ?_
              rw [addr_add]; exact (I.fz _ _ _ (k2 j v hv)).1
          have hg := run_append_grow_src w t0 tx rt e i zv hu hi hzv A es.length cp olds k2 u xs.length news hsrc' (by omega) (by omega) (growFit ok hi hnar (by omega) (by omega))
          have hal : (olds ++ news).length = (es ++ xs).length * sz := by rw [List.length_append, k1, hnl, List.length_append, Nat.add_mul]
          obtain ⟨μ1, x1, r1, I1⟩ := I.grown (es := es ++ xs) (.inr ⟨t0, cur, ho, rfl⟩) hel hzsz hal (fun g hg' => arrAt_append (k3 0 g fun j v hv => hg' j v (by rw [List.getElem?_append_left (List.getElem?_eq_some_iff.1 hv).1]; exact hv)) (hsrc.arr _ g fun j v hv => by
            have := hg' (es.length * sz + j) v (by rw [List.getElem?_append_right (by omega), k1, Nat.add_sub_cancel_left]; exact hv)
            rwa [← Nat.add_assoc] at this)) cp
          rw [List.length_append] at r1 I1
          exact .of hg (hN _ _ _ _ _ _ _ (s' _ _ I1) ⟨Nat.le_refl _, x1⟩ r1)
    | _ => exact (St.fail (n := 175) s).elim
  | _ => exact (St.fail (n := 177) s).elim
end
end Px
end

section
namespace Px
open Go Go.RowKit
set_option linter.unusedVariables false
set_option linter.unusedSimpArgs false
theorem bytesN_inj {a b : ByteArray} (h : bytesN a = bytesN b) : a = b := by
  obtain ⟨⟨x⟩⟩ := a
  obtain ⟨⟨y⟩⟩ := b
  have h' : x.map UInt8.toNat = y.map UInt8.toNat := h
  have : x = y := by
    revert y
    induction x with
    | nil => intro y _ h; cases y with | nil => rfl | cons => simp at h
    | cons c x ih =>
      intro y _ h
      cases y with
      | nil => simp at h
      | cons d y =>
        simp only [List.map_cons, List.cons.injEq] at h
        rw [UInt8.toNat_inj.1 h.1, ih y h.2 h.2]
  rw [this]
theorem bytesN_len (a : ByteArray) : (bytesN a).length = a.size := by unfold bytesN; rw [List.length_map, Array.length_toList]; rfl
theorem bytesN_append (a b : ByteArray) : bytesN (a ++ b) = bytesN a ++ bytesN b := by
  unfold bytesN
  rw [ByteArray.data_append, Array.toList_append, List.map_append]
theorem beq_bytes (a b : ByteArray) : (bytesN a == bytesN b) = (a == b) := by
  rw [beq_toListBytes, ByteArray.toList_eq, ByteArray.toList_eq]
  by_cases e : a.data.toList = b.data.toList
  · have : bytesN a = bytesN b := by unfold bytesN; rw [e]
    rw [this, e]; simp
  · have : ¬ bytesN a = bytesN b := fun h => e (by rw [bytesN_inj h])
    rw [beq_eq_false_iff_ne.2 this, beq_eq_false_iff_ne.2 e]
theorem bytesLess_eq (a b : List UInt8) : Op.bytesLess a b = bytesLt (a.map UInt8.toNat) (b.map UInt8.toNat) := by
  induction a generalizing b with
  | nil => cases b <;> rfl
  | cons x a ih =>
    cases b with
    | nil => rfl
    | cons y b =>
      simp only [Op.bytesLess, List.map_cons, bytesLt, ih]
      have e1 : decide (x < y) = Nat.blt x.toNat y.toNat := by
        by_cases h : x < y
        · rw [blt_yes (UInt8.lt_iff_toNat_lt.1 h)]; simpa using h
        · rw [blt_no (fun hh => h (UInt8.lt_iff_toNat_lt.2 hh))]; simpa using h
      have e2 : (x == y) = Nat.beq x.toNat y.toNat := by
        by_cases h : x = y
        · subst h; simp
        · rw [beq_no (fun hh => h (UInt8.toNat_inj.1 hh))]; simpa using h
      rw [e1, e2]
section
variable {P : Program} {tb : Tab} {B : Bs} {Φ : Res → Prop} {cE : Nat} {b : Nat} {μ : Mu} {h : Hp} {t : T AObj} {c : Nat} {F : Foot} {w w' : World}
theorem run_part (ok : TabOk P tb) {ty : TypeId} {xs : Array Value} {off sz : Nat} {v : Value} (hk : Kind tb ty v) (hs : szA tb ty = some sz) (hc : v.cells.toList = (xs.toList.drop off).take sz) (hz : v.cells.size = sz) (w : World) : (part ty xs off).run P w = .ok v w := by
  rcases hk with ⟨h1, ys, rfl⟩ | ⟨h1, h2⟩
  · have : ys = xs.extract off (off + sz) := by
      apply Array.ext'
      rw [Array.toList_extract, List.extract_eq_take_drop, show off + sz - off = sz by omega]
      exact hc
    subst this
    simp [part, run_agg ok h1, run_sz ok hs]
  · have hc1 := cells_one h2
    rw [hc1] at hc
    have : xs[off]? = some v := by
      have := congrArg (·[0]?) hc
      simp only [List.getElem?_cons_zero, List.getElem?_take, List.getElem?_drop, Nat.add_zero] at this
      split at this
      · rw [Array.getElem?_toList] at this; exact this.symm
      · cases this
    simp [part, run_agg ok h1, this]
theorem cellsS_ok {ty : TypeId} {fs : Array Field} (hu : und tb ty = some (.struct fs)) {x : AV} {cs : List AV} (h : cellsS tb ty x = some cs) {u : Value} (hr : Rel tb μ x u) : ∃ xs : Array Value, u = .agg xs ∧ RelL tb μ cs xs.toList := by
  cases x with
  | agg l => simp only [cellsS, Option.some.injEq] at h; subst h; exact hr
  | pv t' p =>
    simp only [cellsS] at h
    cases e : Nat.beq ty t' with
    | false => rw [e] at h; cases h
    | true =>
      rw [e] at h
      have e2 : ty = t' := by rwa [Nat.beq_eq] at e
      subst e2
      have := expandC_ok h hr
      obtain ⟨_, xs, e3, _⟩ := relP_struct hu hr
      subst e3
      exact ⟨xs, rfl, this⟩
  | _ => cases h
theorem eqA_ok (ok : TabOk P tb) : ∀ (d : Nat) (ty : TypeId) (x y : AV) (u z : Value) (r : Bool), eqA tb d ty x y = some r → Rel tb μ x u → Rel tb μ y z → ∀ w : World, (Op.equalIn d ty u z).run P w = .ok r w := by
  intro d
  induction d with
  | zero => intro ty x y u z r h; simp [eqA] at h
  | succ d ih =>
    intro ty x y u z r h hx hy w
    simp only [eqA] at h
    cases e : und tb ty with
    | none => rw [e] at h; cases h
    | some desc =>
      rw [e] at h
      have hu := und_ok ok e
      cases desc with
      | bool =>
        cases x <;> first | (cases h; done) | skip
        cases y <;> first | (cases h; done) | skip
        cases hx; cases hy
        simp only [Option.some.injEq] at h; subst h
        simp [Op.equalIn, run_underlying hu, eqB]
      | int k0 =>
        cases x <;> first | (cases h; done) | skip
        cases y <;> first | (cases h; done) | skip
        rename_i j p k q
        cases hx; cases hy
        simp only at h
        by_cases ejk : j = k
        · subst ejk
          simp only [decide_true, cond_true, Option.some.injEq] at h; subst h
          simp [Op.equalIn, run_underlying hu, eqI]
        · simp [ejk] at h
      | string =>
        cases x <;> first | (cases h; done) | skip
        cases y <;> first | (cases h; done) | skip
        obtain ⟨ba, rfl, e1⟩ := hx
        obtain ⟨bb, rfl, e2⟩ := hy
        simp only [Option.some.injEq] at h; subst h
        rw [eqS, ← e1, ← e2, beq_bytes]
        simp [Op.equalIn, run_underlying hu]
      | pointer el =>
        cases x <;> first | (cases h; done) | skip
        rename_i q1
        cases q1 with
        | none =>
          cases y <;> first | (cases h; done) | skip
          rename_i q2
          cases hx
          cases q2 with
          | none => cases hy; simp only [Option.some.injEq] at h; subst h; simp [Op.equalIn, run_underlying hu]
          | some q2 => obtain ⟨p2, _, rfl⟩ := hy; simp only [Option.some.injEq] at h; subst h; simp [Op.equalIn, run_underlying hu]
        | some q1 =>
          cases y <;> first | (cases h; done) | skip
          rename_i q2
          obtain ⟨p1, hp1, rfl⟩ := hx
          cases q2 with
          | none => cases hy; simp only [Option.some.injEq] at h; subst h; simp [Op.equalIn, run_underlying hu]
          | some q2 => cases h
      | func ps rs vr =>
        cases x <;> first | (cases h; done) | skip
        · cases y <;> first | (cases h; done) | skip
          obtain ⟨f', c', rfl, _⟩ := hx
          cases hy
          simp only [Option.some.injEq] at h; subst h
          simp [Op.equalIn, run_underlying hu]
        · cases y <;> first | (cases h; done) | skip
          · obtain ⟨f', c', rfl, _⟩ := hy
            cases hx
            simp only [Option.some.injEq] at h; subst h
            simp [Op.equalIn, run_underlying hu]
          · cases hx; cases hy
            simp only [Option.some.injEq] at h; subst h
            simp [Op.equalIn, run_underlying hu]
      | struct fs =>
        simp only at h
        cases ef : tb.flat ty with
        | false => rw [ef] at h; cases h
        | true =>
          rw [ef] at h
          simp only [cond_true] at h
          cases ex : cellsS tb ty x with
          | none => rw [ex] at h; cases h
          | some cx =>
            cases ey : cellsS tb ty y with
            | none => rw [ex, ey] at h; cases h
            | some cy =>
              rw [ex, ey] at h
              simp only at h
              obtain ⟨xs, ex1, hlx⟩ := cellsS_ok e ex hx
              obtain ⟨ys, ey1, hly⟩ := cellsS_ok e ey hy
              clear hx hy
              subst ex1; subst ey1
              cases eal : allCellA tb cx && allCellA tb cy with
              | false => rw [eal] at h; cases h
              | true =>
              rw [eal] at h
              simp only [cond_true] at h
              rw [Bool.and_eq_true] at eal
              have o1 := allCellA_ones eal.1 hlx
              have o2 := allCellA_ones eal.2 hly
              have hfo : P.fieldsOf ty = fs := by simp [Program.fieldsOf, hu]
              rw [run_equalIn_struct w d ty xs ys (by rw [hfo]; exact hu) (ok.flat ty ef).1, hfo]
              generalize fs.toList = l at h
              clear hfo hu e
              induction l generalizing w r with
              | nil => simp only [eqF, Option.some.injEq] at h; subst h; simp [Op.eqFields]
              | cons f l ihl =>
                simp only [eqF] at h
                cases en : f.name == "_" with
                | true => rw [en] at h; cases h
                | false =>
                  rw [en] at h
                  simp only [cond_false] at h
                  cases e1 : partA tb f.type cx f.offset with
                  | none => rw [e1] at h; cases h
                  | some a1 =>
                    rw [e1] at h
                    cases e2 : partA tb f.type cy f.offset with
                    | none => rw [e2] at h; cases h
                    | some a2 =>
                      rw [e2] at h
                      simp only at h
                      obtain ⟨v1, s1, q1, k1, z1, c1, l1⟩ := partA_val e1 hlx o1
                      obtain ⟨v2, s2, q2, k2, z2, c2, l2⟩ := partA_val e2 hly o2
                      have r1 := run_part ok k1 z1 c1 l1 w
                      have r2 := run_part ok k2 z2 c2 l2 w
                      have hne : f.name ≠ "_" := by simpa using en
                      cases e3 : eqA tb d f.type a1 a2 with
                      | none => rw [e3] at h; cases h
                      | some bb =>
                        cases e4 : eqF tb (eqA tb d) cx cy l with
                        | none => rw [e3, e4] at h; cases h
                        | some qq =>
                          rw [e3, e4] at h
                          simp only [Option.some.injEq] at h
                          have r3 := ih f.type a1 a2 v1 v2 bb e3 q1 q2 w
                          have r4 := ihl qq w e4
                          cases bb with
                          | true =>
                            have : r = qq := by rw [← h]; rfl
                            subst this
                            simp [Op.eqFields, hne, r1, r2, r3, r4]
                          | false =>
                            have : r = false := by rw [← h]; rfl
                            subst this
                            simp [Op.eqFields, hne, r1, r2, r3]
      | _ => cases h
end
end Px
end

section
namespace Px
open Go Go.RowKit
set_option linter.unusedVariables false
set_option linter.unusedSimpArgs false
section
variable {P : Program} {tb : Tab} {B : Bs} {Φ : Res → Prop} {cE : Nat} {b : Nat} {μ : Mu} {h : Hp} {t : T AObj} {c : Nat} {F : Foot} {w w' : World}
theorem out_int {S : Sem Value} {j : IntKind} {x : Int} {k : AV → E} (hr : S.run P w = .ok (.int j x) w) (s : St tb B Φ cE (k (.int j x)) b μ t c F w) : ∃ u v, S.run P w = .ok u w ∧ Rel tb μ v u ∧ St tb B Φ cE (k v) b μ t c F w := ⟨_, .int j x, hr, rfl, s⟩
theorem out_bool {S : Sem Value} {x : Bool} {k : AV → E} (hr : S.run P w = .ok (.bool x) w) (s : St tb B Φ cE (k (.bool x)) b μ t c F w) : ∃ u v, S.run P w = .ok u w ∧ Rel tb μ v u ∧ St tb B Φ cE (k v) b μ t c F w := ⟨_, .bool x, hr, rfl, s⟩
theorem intE_ok {op : BinOp} {ty : TypeId} {j : IntKind} {m n : Int} {k : AV → E} (hop : op ≠ .shl) (hop' : op ≠ .shr) (s : St tb B Φ cE (intOp op j m n k) b μ t c F w) : ∃ u v, (binOp op ty (.int j m) (.int j n)).run P w = .ok u w ∧ Rel tb μ v u ∧ St tb B Φ cE (k v) b μ t c F w := by
  cases op <;> first | (exact absurd rfl hop) | (exact absurd rfl hop') | skip
  all_goals simp only [intOp] at s
  case quo =>
    obtain ⟨hq, s⟩ := s.ck
    have e : n ≠ 0 := fun e => by subst e; exact absurd hq (by decide)
    exact out_int (by simp [binOp, Op.intDiv, e, quoW]) s
  case rem =>
    obtain ⟨hq, s⟩ := s.ck
    have e : n ≠ 0 := fun e => by subst e; exact absurd hq (by decide)
    exact out_int (by simp [binOp, Op.intDiv, e, remW]) s
  all_goals first
    | exact (St.fail s).elim
    | exact out_int (by simp [binOp, Op.intArith, Op.intBits, Op.intCmp, addW, subW, mulW, quoW, remW, andW, orW, xorW, anW, eqI, ltI, leI, notB]) s
    | exact out_bool (by simp [binOp, Op.intArith, Op.intBits, Op.intCmp, addW, subW, mulW, quoW, remW, andW, orW, xorW, anW, eqI, ltI, leI, notB, bne]) s
theorem shiftE_ok {op : BinOp} {ty : TypeId} {j j' : IntKind} {m n : Int} {k : AV → E} (hop : op = .shl ∨ op = .shr) (s : St tb B Φ cE (shiftOp op j m n k) b μ t c F w) : ∃ u v, (binOp op ty (.int j m) (.int j' n)).run P w = .ok u w ∧ Rel tb μ v u ∧ St tb B Φ cE (k v) b μ t c F w := by
  rcases hop with rfl | rfl
  all_goals
    obtain ⟨hq, s⟩ := St.ck (n := 165) s
    have e : ¬ n < 0 := by simp only [leI, decide_eq_true_eq] at hq; omega
    exact out_int (by simp [binOp, Op.shift, e, shlW, shrW]) s
theorem strE_ok {op : BinOp} {ty : TypeId} {x y : ByteArray} {k : AV → E} (s : St tb B Φ cE (strOp op (bytesN x) (bytesN y) k) b μ t c F w) : ∃ u v, (binOp op ty (.string x) (.string y)).run P w = .ok u w ∧ Rel tb μ v u ∧ St tb B Φ cE (k v) b μ t c F w := by
  have el : ltS (bytesN x) (bytesN y) = Op.bytesLess x.toList y.toList := by rw [ltS, bytesLess_eq, ByteArray.toList_eq, ByteArray.toList_eq]; rfl
  have el' : bytesLt (bytesN x) (bytesN y) = Op.bytesLess x.toList y.toList := el
  have ee : (bytesN x == bytesN y) = (x.toList == y.toList) := by rw [beq_bytes, beq_toListBytes]
  cases op <;> simp only [strOp] at s <;> first | (exact (St.fail s).elim) | skip
  case add =>
    obtain ⟨hq, s⟩ := s.ck
    simp only [smallS, Nat.blt_eq, bytesN_len] at hq
    have : ¬ ((x.size + y.size : Nat) : Int) > IntKind.i64.max := by
      have : IntKind.i64.max = 9223372036854775807 := by rfl
      rw [this]; omega
    refine ⟨.string (x ++ y), _, ?_, (show Rel tb μ (.str (appS (bytesN x) (bytesN y))) _ from ⟨_, rfl, bytesN_append x y⟩), s⟩
    simp only [binOp, Op.stringOp, if_neg this]; rfl
  all_goals exact out_bool (by simp only [binOp, Op.stringOp, el, ee, eqS, leS, el', notB]; rfl) s
theorem eqNot {d : Nat} {ty : TypeId} {x y : AV} {r : Bool} {u : Value} (h : eqA tb (d + 1) ty x y = some r) (hx : Rel tb μ x u) (h1 : ∀ k n, x ≠ .int k n) (h2 : ∀ s, x ≠ .str s) : (∀ k n, u ≠ .int k n) ∧ (∀ k n, u ≠ .float k n) ∧ (∀ k n m, u ≠ .complex k n m) ∧ (∀ s, u ≠ .string s) := by
  simp only [eqA] at h
  cases e : und tb ty with
  | none => rw [e] at h; cases h
  | some desc =>
    rw [e] at h
    cases desc with
    | bool =>
      cases x <;> first | (cases h; done) | skip
      cases hx
      exact ⟨(fun _ _ e => by cases e), (fun _ _ e => by cases e), (fun _ _ _ e => by cases e), (fun _ e => by cases e)⟩
    | int k0 => cases x <;> first | (cases h; done) | skip
                exact absurd rfl (h1 _ _)
    | string => cases x <;> first | (cases h; done) | skip
                exact absurd rfl (h2 _)
    | pointer el =>
      cases x <;> first | (cases h; done) | skip
      rename_i q1
      cases q1 with
      | none => cases hx; exact ⟨(fun _ _ e => by cases e), (fun _ _ e => by cases e), (fun _ _ _ e => by cases e), (fun _ e => by cases e)⟩
      | some q => obtain ⟨p, _, rfl⟩ := hx; exact ⟨(fun _ _ e => by cases e), (fun _ _ e => by cases e), (fun _ _ _ e => by cases e), (fun _ e => by cases e)⟩
    | func ps rs vr =>
      cases x <;> first | (cases h; done) | skip
      · obtain ⟨f', c', rfl, _⟩ := hx; exact ⟨(fun _ _ e => by cases e), (fun _ _ e => by cases e), (fun _ _ _ e => by cases e), (fun _ e => by cases e)⟩
      · cases hx; exact ⟨(fun _ _ e => by cases e), (fun _ _ e => by cases e), (fun _ _ _ e => by cases e), (fun _ e => by cases e)⟩
    | struct fs =>
      simp only at h
      cases ef : tb.flat ty with
      | false => rw [ef] at h; cases h
      | true =>
        rw [ef] at h
        simp only [cond_true] at h
        cases ex : cellsS tb ty x with
        | none => rw [ex] at h; cases h
        | some cx =>
          obtain ⟨xs, rfl, _⟩ := cellsS_ok e ex hx
          exact ⟨(fun _ _ e => by cases e), (fun _ _ e => by cases e), (fun _ _ _ e => by cases e), (fun _ e => by cases e)⟩
    | _ => cases h
theorem guard_plain {op : BinOp} {ty : TypeId} {xo yo : Operand} {u z : Value} (h1 : u ≠ .nilIface) (h2 : ∀ xs, u ≠ .agg xs) (w : World) : (eqGuard op ty xo yo u z).run P w = .ok () w := by
  cases u <;> first | (exact absurd rfl h1) | (exact absurd rfl (h2 _)) | (cases op <;> rfl)
theorem guard_ok (ok : TabOk P tb) {op : BinOp} {ty : TypeId} {xo yo : Operand} {x y : AV} {u z : Value} {r : Bool} {d0 : Nat} (h : eqA tb (d0 + 1) ty x y = some r) (hx : Rel tb μ x u) (hy : Rel tb μ y z) (w : World) : (eqGuard op ty xo yo u z).run P w = .ok () w := by
  simp only [eqA] at h
  cases e : und tb ty with
  | none => rw [e] at h; cases h
  | some desc =>
    rw [e] at h
    have hu := und_ok ok e
    cases desc with
    | struct fs =>
      simp only at h
      cases ef : tb.flat ty with
      | false => rw [ef] at h; cases h
      | true =>
        rw [ef] at h
        simp only [cond_true] at h
        cases ex : cellsS tb ty x with
        | none => rw [ex] at h; cases h
        | some cx =>
          cases ey : cellsS tb ty y with
          | none => rw [ex, ey] at h; cases h
          | some cy =>
            obtain ⟨xs, rfl, _⟩ := cellsS_ok e ex hx
            obtain ⟨ys, rfl, _⟩ := cellsS_ok e ey hy
            exact run_eqGuard_agg w op ty xo yo xs ys (ok.flat ty ef).2
    | bool => cases x <;> first | (cases h; done) | skip
              cases hx; exact guard_plain (fun e => by cases e) (fun _ e => by cases e) w
    | int k => cases x <;> first | (cases h; done) | skip
               cases hx; exact guard_plain (fun e => by cases e) (fun _ e => by cases e) w
    | string => cases x <;> first | (cases h; done) | skip
                obtain ⟨ba, rfl, _⟩ := hx; exact guard_plain (fun e => by cases e) (fun _ e => by cases e) w
    | pointer el =>
      cases x <;> first | (cases h; done) | skip
      rename_i q; cases q with
      | none => cases hx; exact guard_plain (fun e => by cases e) (fun _ e => by cases e) w
      | some q => obtain ⟨p, _, rfl⟩ := hx; exact guard_plain (fun e => by cases e) (fun _ e => by cases e) w
    | func ps rs vr =>
      cases x <;> first | (cases h; done) | skip
      · obtain ⟨f', c', rfl, _⟩ := hx; exact guard_plain (fun e => by cases e) (fun _ e => by cases e) w
      · cases hx; exact guard_plain (fun e => by cases e) (fun _ e => by cases e) w
    | _ => cases h
theorem eq_run {op : BinOp} {ty : TypeId} {u z : Value} {r : Bool} (hop : op = .eql ∨ op = .neq) (hu : ∀ k n, u ≠ .int k n) (hf : ∀ k n, u ≠ .float k n) (hc : ∀ k n m, u ≠ .complex k n m) (hs : ∀ s, u ≠ .string s) {w : World} (h : (Op.equalIn 10000 ty u z).run P w = .ok r w) :
    (binOp op ty u z).run P w = .ok (.bool (if op = .eql then r else !r)) w := by
  have h' : (Op.equal ty u z).run P w = .ok r w := h
  rcases hop with rfl | rfl
  · cases u <;> first | (exact absurd rfl (hu _ _)) | (exact absurd rfl (hf _ _)) | (exact absurd rfl (hc _ _ _)) | (exact absurd rfl (hs _)) | skip
    all_goals (simp only [binOp, Sem.run_bind, h', Result.andThen_ok, Sem.run_pure]; rfl)
  · cases u <;> first | (exact absurd rfl (hu _ _)) | (exact absurd rfl (hf _ _)) | (exact absurd rfl (hc _ _ _)) | (exact absurd rfl (hs _)) | skip
    all_goals (simp only [binOp, Sem.run_bind, h', Result.andThen_ok, Sem.run_pure]; rfl)
theorem binE_ok (ok : TabOk P tb) {op : BinOp} {ty : TypeId} {xo yo : Operand} {x y : AV} {u z : Value} {k : AV → E} (s : St tb B Φ cE (binE tb op ty x y k) b μ t c F w) (hx : Rel tb μ x u) (hy : Rel tb μ y z) : ∃ r v, (do eqGuard op ty xo yo u z; binOp op ty u z : Sem Value).run P w = .ok r w ∧ Rel tb μ v r ∧ St tb B Φ cE (k v) b μ t c F w := by
  have fin : (∀ k n, x ≠ .int k n) → (∀ s, x ≠ .str s) → St tb B Φ cE (binX tb op ty x y k) b μ t c F w → ∃ r v, (do eqGuard op ty xo yo u z; binOp op ty u z : Sem Value).run P w = .ok r w ∧ Rel tb μ v r ∧ St tb B Φ cE (k v) b μ t c F w := fun h1 h2 s => by
    cases op <;> first | (exact (St.fail (n := 172) s).elim) | skip
    · obtain ⟨q, e, s⟩ := St.opt (n := 170) s
      obtain ⟨h3, h4, h5, h6⟩ := eqNot (d := 9999) e hx h1 h2
      refine out_bool ?_ s
      rw [Sem.run_bind, guard_ok (d0 := 9999) ok e hx hy w, Result.andThen_ok, eq_run (.inl rfl) h3 h4 h5 h6 (eqA_ok ok _ ty x y u z q e hx hy w)]
      rfl
    · obtain ⟨q, e, s⟩ := St.opt (n := 171) s
      obtain ⟨h3, h4, h5, h6⟩ := eqNot (d := 9999) e hx h1 h2
      refine out_bool ?_ s
      rw [Sem.run_bind, guard_ok (d0 := 9999) ok e hx hy w, Result.andThen_ok, eq_run (.inr rfl) h3 h4 h5 h6 (eqA_ok ok _ ty x y u z q e hx hy w)]
      rfl
  cases x with
  | int j m =>
    cases hx
    have g : (eqGuard op ty xo yo (.int j m) z).run P w = .ok () w := guard_plain (fun e => by cases e) (fun _ e => by cases e) w
    rw [Sem.run_bind, g, Result.andThen_ok]
    cases y with
    | int j' n =>
      cases hy
      by_cases h1 : op = .shl
      · subst h1; exact shiftE_ok (.inl rfl) s
      · by_cases h2 : op = .shr
        · subst h2; exact shiftE_ok (.inr rfl) s
        · by_cases ek : j = j'
          · subst ek
            have s' : St tb B Φ cE (intOp op j m n k) b μ t c F w := by
              cases op <;> first | (exact absurd rfl h1) | (exact absurd rfl h2) | (exact s.with (by simp [binE]))
            exact intE_ok h1 h2 s'
          · exfalso
            cases op <;> first | (exact absurd rfl h1) | (exact absurd rfl h2) | (exact (s.with (e' := .fail 167) (by simp [binE, ek])).fail)
    | _ => exact (St.fail (n := 168) s).elim
  | str s1 =>
    obtain ⟨ba, rfl, rfl⟩ := hx
    have g : (eqGuard op ty xo yo (.string ba) z).run P w = .ok () w := guard_plain (fun e => by cases e) (fun _ e => by cases e) w
    rw [Sem.run_bind, g, Result.andThen_ok]
    cases y with
    | str s2 => obtain ⟨bb, rfl, rfl⟩ := hy; exact strE_ok s
    | _ => exact (St.fail (n := 169) s).elim
  | _ => exact fin (fun _ _ e => by cases e) (fun _ e => by cases e) s
theorem unA_ok {op : UnOp} {x v : AV} {u : Value} (h : unA op x = some v) (hx : Rel tb μ x u) (w : World) : ∃ r, (Op.unary op u).run P w = .ok r w ∧ Rel tb μ v r := by
  cases op <;> cases x <;> simp only [unA] at h <;> first | (cases h; done) | skip
  all_goals (cases hx; simp only [Option.some.injEq] at h; subst h; exact ⟨_, by simp [Op.unary, Op.intArith, Op.intBits, negW, comW, notB], rfl⟩)
theorem part_ok (ok : TabOk P tb) {ty : TypeId} {cs : List AV} {xs : Array Value} {off : Nat} {a : AV} (hr : RelL tb μ cs xs.toList) (h : partA tb ty cs off = some a) (w : World) : ∃ v, (part ty xs off).run P w = .ok v w ∧ Rel tb μ a v := by
  unfold partA at h
  cases e : isAggA tb ty with
  | none => rw [e] at h; cases h
  | some ag =>
    rw [e] at h
    cases ag with
    | true =>
      simp only at h
      cases en : szA tb ty with
      | none => rw [en] at h; cases h
      | some n =>
        rw [en] at h
        simp only at h
        cases es : seg cs off n with
        | none => rw [es] at h; cases h
        | some l =>
          rw [es] at h; simp only [Option.some.injEq] at h; subst h
          obtain ⟨el, _, _⟩ := seg_spec _ _ _ _ es
          refine ⟨.agg (xs.extract off (off + n)), by simp [part, run_agg ok e, run_sz ok en], _, rfl, ?_⟩
          rw [el, Array.toList_extract, List.extract_eq_take_drop, show off + n - off = n by omega]
          exact (hr.drop off).take n
    | false =>
      simp only at h
      cases en : szA tb ty with
      | none => rw [en] at h; cases h
      | some n1 =>
      rw [en] at h
      simp only at h
      cases eb : Nat.beq n1 1 with
      | false => rw [eb] at h; cases h
      | true =>
      rw [eb] at h
      simp only [cond_true] at h
      cases es : seg cs off 1 with
      | none => rw [es] at h; cases h
      | some l =>
        rw [es] at h
        obtain ⟨el, l1, l2⟩ := seg_spec _ _ _ _ es
        cases l with
        | nil => simp at l1
        | cons x l =>
          cases l with
          | cons y l => simp at l1
          | nil =>
            simp only [Option.some.injEq] at h; subst h
            have : cs[off]? = some x := by have := seg_get es (j := 0) (by omega); simpa using this.symm
            obtain ⟨v, hv, hrv⟩ := hr.get off x this
            refine ⟨v, ?_, hrv⟩
            have : xs[off]? = some v := by simpa using hv
            simp [part, run_agg ok e, this]
theorem fieldA_ok (ok : TabOk P tb) {ty : TypeId} {x v : AV} {u : Value} {i : Nat} (h : fieldA tb ty x i = some v) (hx : Rel tb μ x u) (w : World) : ∃ r, (Instr.field ty u i).run P w = .ok r w ∧ Rel tb μ v r := by
  unfold fieldA at h
  cases e : und tb ty with
  | none => rw [e] at h; cases h
  | some d =>
    rw [e] at h
    have hu := und_ok ok e
    cases d <;> first | (cases h; done) | skip
    rename_i fs
    simp only at h
    cases ef : fs.toList[i]? with
    | none => rw [ef] at h; cases h
    | some f =>
      rw [ef] at h
      have hf : fs[i]? = some f := by simpa using ef
      simp only at h
      cases x <;> first | (cases h; done) | skip
      · rename_i t' p
        simp only at h
        cases eb : Nat.beq ty t' with
        | false => rw [eb] at h; cases h
        | true =>
          rw [eb] at h
          simp only [cond_true] at h
          have e2 : ty = t' := by rwa [Nat.beq_eq] at eb
          subst e2
          obtain ⟨_, xs, rfl, _, h7⟩ := relP_struct e hx
          obtain ⟨q, sz, k1, k2, k3, k4, k5⟩ := relF_get h7 i f ef
          exact ⟨q, by simp [Instr.field, run_underlying hu, hf, asAgg, run_part ok k2 k3 k4 k5 w], expandV_ok h k1⟩
      · rename_i cs
        simp only at h
        obtain ⟨xs, rfl, hr⟩ := hx
        obtain ⟨r, h1, h2⟩ := part_ok ok hr h w
        exact ⟨r, by simp [Instr.field, run_underlying hu, hf, asAgg, h1], h2⟩
end
end Px
end

section
namespace Px
open Go Go.RowKit
set_option linter.unusedVariables false
set_option linter.unusedSimpArgs false
section
variable {P : Program} {tb : Tab} {B : Bs} {Φ : Res → Prop} {cE : Nat} {b : Nat} {μ : Mu} {h : Hp} {t : T AObj} {c : Nat} {F : Foot} {w w' : World}
theorem fieldAddrA_ok (ok : TabOk P tb) {ty : TypeId} {x v : AV} {u : Value} {i : Nat} (h : fieldAddrA tb ty x i = some v) (hx : Rel tb μ x u) (w : World) : ∃ r, (Instr.fieldAt ty u i).run P w = .ok r w ∧ Rel tb μ v r := by
  unfold fieldAddrA at h
  cases e : und tb ty with
  | none => rw [e] at h; cases h
  | some d =>
    rw [e] at h
    have hu := und_ok ok e
    cases d <;> first | (cases h; done) | skip
    rename_i fs
    simp only at h
    cases ef : fs.toList[i]? with
    | none => rw [ef] at h; cases h
    | some f =>
      rw [ef] at h
      simp only at h
      have hf : fs[i]? = some f := by simpa using ef
      cases en : szA tb f.type with
      | none => rw [en] at h; cases h
      | some n =>
        rw [en] at h
        cases n with
        | zero => cases h
        | succ n =>
          simp only at h
          cases x <;> first | (cases h; done) | skip
          · rename_i q
            cases q with
            | none => cases h
            | some q =>
              obtain ⟨x, off⟩ := q
              obtain ⟨p, hp, rfl⟩ := hx
              simp only [Option.some.injEq] at h; subst h
              refine ⟨.pointer (some ⟨p.b, p.o + (off + f.offset), none⟩), ?_, p, hp, rfl⟩
              simp [Instr.fieldAt, run_underlying hu, hf, Instr.sureAddr, fieldPlace, run_sz ok en, addr_add, Nat.add_assoc]
          · rename_i t' p
            simp only at h
            cases eb : Nat.beq ty t' with
            | false => rw [eb] at h; cases h
            | true =>
              rw [eb] at h
              simp only [cond_true, Option.some.injEq] at h
              have e2 : ty = t' := by rwa [Nat.beq_eq] at eb
              subst h; subst e2
              obtain ⟨bk, o, u', rfl, h1, h2, h3, h4⟩ := hx
              obtain ⟨_, xs, rfl, _, h7⟩ := relP_struct e h1
              obtain ⟨q, sz, k1, k2, k3, k4, k5⟩ := relF_get h7 i f ef
              refine ⟨.pointer (some ⟨bk, o + f.offset, none⟩), by simp [Instr.fieldAt, run_underlying hu, hf, Instr.sureAddr, fieldPlace, run_sz ok en, addr_add], bk, o + f.offset, q, rfl, k1, k2, by rw [k3, k5], fun j d hj => ?_⟩
              rw [k4] at hj
              have hlt := (List.getElem?_eq_some_iff.1 hj).1
              rw [List.length_take] at hlt
              rw [List.getElem?_take, if_pos (by omega), List.getElem?_drop] at hj
              have := h4 _ d hj
              rwa [← Nat.add_assoc] at this
theorem assertA_ok (ok : TabOk P tb) {x v : AV} {u : Value} {xt ty : TypeId} {co : Bool} (h : assertA tb x ty co = some v) (hx : Rel tb μ x u) (w : World) : ∃ r, (Instr.typeAssert u xt ty co).run P w = .ok r w ∧ Rel tb μ v r := by
  unfold assertA at h
  cases e : und tb ty with
  | none => rw [e] at h; cases h
  | some d =>
    rw [e] at h
    have hu := und_ok ok e
    have key : (∀ ms, d ≠ .interface ms) → ∃ r, (Instr.typeAssert u xt ty co).run P w = .ok r w ∧ Rel tb μ v r := fun hd => by
      have h' : (match x with
        | .nilIface => bif co then (match zeroA tb ty with | some z => some (.tuple [z, .bool false]) | none => none) else none
        | .iface t v => bif Nat.beq t ty then some (bif co then .tuple [v, .bool true] else v)
            else bif co then (match zeroA tb ty with | some z => some (.tuple [z, .bool false]) | none => none) else none
        | _ => none) = some v := by cases d <;> first | (exact absurd rfl (hd _)) | (cases x <;> exact h)
      cases x <;> first | (cases h'; done) | skip
      · rename_i t2 a2
        obtain ⟨v2, rfl, hr⟩ := hx
        simp only at h'
        by_cases et : t2 = ty
        · subst et
          rw [beq_yes rfl] at h'
          simp only [cond_true, Option.some.injEq] at h'; subst h'
          cases co with
          | true =>
            refine ⟨.tuple #[v2, .bool true], ?_, _, rfl, .cons hr (.cons rfl .nil)⟩
            cases d <;> first | (exact absurd rfl (hd _)) | (simp [Instr.typeAssert, run_underlying hu])
          | false =>
            refine ⟨v2, ?_, hr⟩
            cases d <;> first | (exact absurd rfl (hd _)) | (simp [Instr.typeAssert, run_underlying hu])
        · rw [beq_no et] at h'
          cases co with
          | false => cases h'
          | true =>
            simp only [cond_false, cond_true] at h'
            cases ez : zeroA tb ty with
            | none => rw [ez] at h'; cases h'
            | some z =>
              rw [ez] at h'; simp only [Option.some.injEq] at h'; subst h'
              obtain ⟨i, zv, hi, hz, hzr⟩ := zeroA_ok ok ez
              refine ⟨.tuple #[zv, .bool false], ?_, _, rfl, .cons (hzr μ) (.cons rfl .nil)⟩
              cases d <;> first | (exact absurd rfl (hd _)) | (simp [Instr.typeAssert, run_underlying hu, et, run_zero hi hz])
      · cases hx
        simp only at h'
        cases co with
        | false => cases h'
        | true =>
          simp only [cond_true] at h'
          cases ez : zeroA tb ty with
          | none => rw [ez] at h'; cases h'
          | some z =>
            rw [ez] at h'; simp only [Option.some.injEq] at h'; subst h'
            obtain ⟨i, zv, hi, hz, hzr⟩ := zeroA_ok ok ez
            refine ⟨.tuple #[zv, .bool false], ?_, _, rfl, .cons (hzr μ) (.cons rfl .nil)⟩
            cases d <;> first | (exact absurd rfl (hd _)) | (simp [Instr.typeAssert, run_underlying hu, run_zero hi hz])
    cases d <;> first | (cases h; done) | (exact key fun _ e => by cases e)
theorem relE_at {fz : Fz} {e sz bk o : Nat} {ps : List PV} (h : RelE tb fz e sz bk ps o) {n : Int} (hn : inP ps n = true) : ∃ m : Nat, n = m ∧ m < ps.length ∧ ∃ u, RelP tb fz e (getP ps n) u ∧ Kind tb e u ∧ u.cells.size = sz ∧ CellsAt (fz bk) (o + m * sz) u.cells.toList := by
  simp only [inP, Bool.and_eq_true, decide_eq_true_eq] at hn
  obtain ⟨m, rfl⟩ : ∃ m : Nat, n = m := ⟨n.toNat, by omega⟩
  exact ⟨m, rfl, by omega, relE_get h m (by omega)⟩
theorem sliceAt_ok (ok : TabOk P tb) {ty e sz : Nat} (hel : elemA tb ty = some (e, sz)) {p : PV} {n : Int} {ik : IntKind} {u : Value} (hr : RelP tb μ.fz ty p u) (hn : inP p.l n = true) (w : World) : ∃ r, (Instr.indexAt ty u (.int ik n)).run P w = .ok r w ∧ Rel tb μ (.fp e (getP p.l n)) r := by
  obtain ⟨hun, hu, hsz, hpos⟩ := elemA_ok ok hel
  simp only at hun hu hsz hpos
  obtain ⟨_, A, c, rfl, hle, h4⟩ := relP_slice hun hr
  rcases h4 with h4 | ⟨bk, o, sz', rfl, h5, h6⟩
  · rw [h4] at hn
    simp only [inP, Bool.and_eq_true, decide_eq_true_eq, List.length_nil] at hn
    omega
  · rw [hsz] at h5; cases h5
    obtain ⟨m, rfl, hm, u', k1, k2, k3, k4⟩ := relE_at h6 hn
    exact ⟨.pointer (some ⟨bk, o + m * sz, none⟩), by simp [Instr.indexAt, asIntOf, run_underlying hu, hm, run_sz ok hsz, addr_add], bk, _, u', rfl, k1, k2, by rw [k3]; exact hsz, k4⟩
theorem indexAddr_ok (ok : TabOk P tb) {ty : TypeId} {cn : Bool} {x i : AV} {u j : Value} {k : AV → E} {N : Value → World → Prop} (s : St tb B Φ cE (indexAddrE tb ty cn x i k) b μ t c F w) (hx : Rel tb μ x u) (hi : Rel tb μ i j) (hN : Then tb B Φ cE b k μ c N) : Runs P (Instr.indexAt ty u j) w N := by
  cases i with
  | int ik n =>
    cases hi
    cases x with
    | pv t' p =>
      simp only [indexAddrE] at s
      cases e1 : und tb ty with
      | none => rw [e1] at s; exact (St.fail (n := 241) s).elim
      | some d1 =>
        rw [e1] at s
        cases d1 <;> first | (exact (St.fail (n := 241) s).elim) | skip
        cases e2 : und tb t' with
        | none => rw [e2] at s; exact (St.fail (n := 241) s).elim
        | some d2 =>
          rw [e2] at s
          cases d2 <;> first | (exact (St.fail (n := 241) s).elim) | skip
          cases e3 : elemA tb ty with
          | none => rw [e3] at s; exact (St.fail (n := 241) s).elim
          | some pe =>
            rw [e3] at s
            obtain ⟨el, sz⟩ := pe
            obtain ⟨hb, s1⟩ := St.when (n := 240) s
            clear s
            rw [Nat.beq_eq] at hb; subst hb
            obtain ⟨hn, s⟩ := St.ck (n := 240) s1
            clear s1
            obtain ⟨r, h1, h2⟩ := sliceAt_ok ok e3 (ik := ik) hx hn w
            exact .of h1 (hN.now s h2)
    | vs y ver t' es =>
      simp only [indexAddrE] at s
      cases e3 : elemA tb ty with
      | none => rw [e3] at s; exact (St.fail (n := 243) s).elim
      | some pe =>
        rw [e3] at s
        obtain ⟨el, sz⟩ := pe
        obtain ⟨hb, s1⟩ := St.when (n := 242) s
        clear s
        rw [Nat.beq_eq] at hb; subst hb
        obtain ⟨hn, s⟩ := St.ck (n := 242) s1
        clear s1
        obtain ⟨r, h1, h2⟩ := sliceAt_ok ok e3 (p := .node es) (ik := ik) hx.1 hn w
        exact .of h1 (hN.now s h2)
    | ar y t' =>
      simp only [indexAddrE] at s
      cases e3 : elemA tb ty with
      | none => rw [e3] at s; exact (St.fail (n := 245) s).elim
      | some pe =>
        rw [e3] at s
        obtain ⟨el, sz⟩ := pe
        obtain ⟨hb, s1⟩ := St.when (n := 245) s
        clear s
        rw [Nat.beq_eq] at hb; subst hb
        obtain ⟨hy, o, ho, F', s⟩ := St.get s1
        clear s1
        cases o with
        | arr st es =>
          obtain ⟨hb, s1⟩ := St.when (n := 244) s
          clear s
          rw [Nat.beq_eq] at hb; subst hb
          obtain ⟨hn, s⟩ := St.ck (n := 244) s1
          clear s1
          obtain ⟨p, e, sz1, H⟩ := s.inv.obj y _ ho
          obtain ⟨p', n1, ad, e', sz', r1, r2, rfl, r4, r5⟩ := hx
          rw [H.pl] at r1; cases r1
          have hel := H.el
          rw [e3] at hel; cases hel
          rw [e3] at r2; cases r2
          obtain ⟨hun, hu, hsz, hpos⟩ := elemA_ok ok e3
          simp only at hun hu hsz hpos
          have hn1 : n1 = es.length := Nat.eq_of_mul_eq_mul_right hpos (by rw [← r4, H.r])
          simp only [inP, Bool.and_eq_true, decide_eq_true_eq] at hn
          obtain ⟨m, rfl⟩ : ∃ m : Nat, n = m := ⟨n.toNat, by omega⟩
          have had : ad = ⟨p.b, p.o, none⟩ := by rcases r5 with h | h <;> first | (exfalso; omega) | exact h
          subst had
          refine .of (u := .pointer (some ⟨p.b, p.o + m * sz, none⟩)) ?_ (hN.now s ⟨p, sz, H.pl, hsz, by omega, rfl⟩)
          have hm : m < n1 := by omega
          simp [Instr.indexAt, asIntOf, run_underlying hu, hm, run_sz ok hsz, addr_add]
        | _ => exact (St.fail (n := 244) s).elim
    | fp t' p =>
      simp only [indexAddrE] at s
      cases e1 : und tb ty with
      | none => rw [e1] at s; exact (St.fail (n := 247) s).elim
      | some d1 =>
        rw [e1] at s
        cases d1 <;> first | (exact (St.fail (n := 247) s).elim) | skip
        rename_i mm el
        obtain ⟨hb, s1⟩ := St.when (n := 246) s
        clear s
        rw [Nat.beq_eq] at hb; subst hb
        obtain ⟨hn, s⟩ := St.ck (n := 246) s1
        clear s1
        obtain ⟨bk, o, u', rfl, h1, h2, h3, h4⟩ := hx
        obtain ⟨_, xs, sz, k1, rfl, k3, k4, k5⟩ := relP_array e1 h1
        simp only [inN, Bool.and_eq_true, decide_eq_true_eq] at hn
        obtain ⟨m, rfl⟩ : ∃ m : Nat, n = m := ⟨n.toNat, by omega⟩
        have hm : m < mm := by omega
        obtain ⟨q, m1, m2, m3, m4⟩ := relN_get k5 m (by omega)
        rw [Nat.zero_add] at m3
        refine .of (u := .pointer (some ⟨bk, o + m * sz, none⟩)) ?_ (hN.now s ⟨bk, o + m * sz, q, rfl, m1, m2, by rw [m4]; exact k1, fun j d hj => ?_⟩)
        · simp [Instr.indexAt, asIntOf, run_underlying (und_ok ok e1), Instr.sureAddr, hm, run_sz ok k1, addr_add]
        · rw [m3] at hj
          have hlt := (List.getElem?_eq_some_iff.1 hj).1
          rw [List.length_take] at hlt
          rw [List.getElem?_take, if_pos (by omega), List.getElem?_drop] at hj
          have := h4 _ d hj
          rwa [← Nat.add_assoc] at this
    | ptr q =>
      cases q with
      | none => exact (St.fail (n := 239) s).elim
      | some q =>
        obtain ⟨r, off⟩ := q
        simp only [indexAddrE] at s
        cases e1 : und tb ty with
        | none => rw [e1] at s; exact (St.fail (n := 249) s).elim
        | some d1 =>
          rw [e1] at s
          cases d1 <;> first | (exact (St.fail (n := 249) s).elim) | skip
          rename_i mm el
          obtain ⟨_, s⟩ := St.when (n := 249) s
          cases e2 : szA tb el with
          | none => rw [e2] at s; exact (St.fail (n := 249) s).elim
          | some sz =>
            rw [e2] at s
            obtain ⟨hn, s⟩ := St.ck (n := 248) s
            obtain ⟨p, hp, rfl⟩ := hx
            simp only [inN, Bool.and_eq_true, decide_eq_true_eq] at hn
            obtain ⟨m, rfl⟩ : ∃ m : Nat, n = m := ⟨n.toNat, by omega⟩
            have hm : m < mm := by omega
            refine .of (u := .pointer (some ⟨p.b, p.o + (off + m * sz), none⟩)) ?_ (hN.now s ⟨p, hp, rfl⟩)
            simp [Instr.indexAt, asIntOf, run_underlying (und_ok ok e1), Instr.sureAddr, hm, run_sz ok e2, addr_add, Nat.add_assoc]
    | _ => exact (St.fail (n := 239) s).elim
  | _ => exact (St.fail (n := 238) s).elim
theorem len_ok (ok : TabOk P tb) {ty rt : TypeId} {x : AV} {u : Value} {ts : Array TypeId} (ht : ts[0]? = some ty) {k : AV → E} {N : Value → World → Prop} (s : St tb B Φ cE (lenE tb ty x k) b μ t c F w) (hx : Rel tb μ x u) (hN : Then tb B Φ cE b k μ c N) : Runs P (Builtin.len_ ts rt #[u]) w N := by
  have arr : St tb B Φ cE (match und tb ty with | some (.array n _) => k (.int .i64 n) | _ => .fail 228) b μ t c F w → Runs P (Builtin.len_ ts rt #[u]) w N := fun s => by
    cases e : und tb ty with
    | none => rw [e] at s; exact (St.fail (n := 228) s).elim
    | some d =>
      rw [e] at s
      cases d <;> first | (exact (St.fail (n := 228) s).elim) | skip
      rename_i n el
      refine .of (u := .int .i64 n) ?_ (hN.now s rfl)
      simp [Builtin.len_, ht, run_underlying (und_ok ok e), goInt]
  have sl : ∀ (e : TypeId) (A : Option Addr) (n cp : Nat), und tb ty = some (.slice e) → u = .slice A n cp → (Builtin.len_ ts rt #[u]).run P w = .ok (.int .i64 n) w := fun e A n cp he hu => by
    subst hu
    simp [Builtin.len_, ht, run_underlying (und_ok ok he), goInt]
  cases x with
  | str s1 =>
    simp only [lenE] at s
    obtain ⟨ba, rfl, rfl⟩ := hx
    cases e : und tb ty with
    | none => rw [e] at s; exact (St.fail (n := 224) s).elim
    | some d =>
      rw [e] at s
      cases d <;> first | (exact (St.fail (n := 224) s).elim) | skip
      refine .of (u := .int .i64 ba.size) ?_ (hN.now s (by rw [lenS, bytesN_len]; rfl))
      simp [Builtin.len_, ht, run_underlying (und_ok ok e), goInt]
  | nils =>
    simp only [lenE] at s
    cases e : und tb ty with
    | none => rw [e] at s; exact (St.fail (n := 225) s).elim
    | some d =>
      rw [e] at s
      cases d <;> first | (exact (St.fail (n := 225) s).elim) | skip
      exact .of (sl _ none 0 0 e hx) (hN.now s rfl)
  | pv t' p =>
    simp only [lenE] at s
    cases e : und tb ty with
    | none => rw [e] at s; exact (St.fail (n := 225) s).elim
    | some d =>
      rw [e] at s
      cases d <;> first | (exact (St.fail (n := 225) s).elim) | skip
      cases e2 : und tb t' with
      | none => rw [e2] at s; exact (St.fail (n := 225) s).elim
      | some d2 =>
        rw [e2] at s
        cases d2 <;> first | (exact (St.fail (n := 225) s).elim) | skip
        obtain ⟨_, A, c', h1, _⟩ := relP_slice e2 hx
        exact .of (sl _ A _ c' e h1) (hN.now s rfl)
  | vs y ver t' es =>
    simp only [lenE] at s
    cases e : und tb ty with
    | none => rw [e] at s; exact (St.fail (n := 225) s).elim
    | some d =>
      rw [e] at s
      cases d <;> first | (exact (St.fail (n := 225) s).elim) | skip
      obtain ⟨h0, _, e3, he3⟩ := hx
      obtain ⟨_, A, c', h1, _⟩ := relP_slice he3 h0
      exact .of (sl _ A _ c' e h1) (hN.now s rfl)
  | ar y t' =>
    simp only [lenE] at s
    cases e : und tb ty with
    | none => rw [e] at s; exact (St.fail (n := 225) s).elim
    | some d =>
      rw [e] at s
      cases d <;> first | (exact (St.fail (n := 225) s).elim) | skip
      obtain ⟨hy, o, ho, F', s⟩ := St.get s
      cases o with
      | arr st es =>
        obtain ⟨hb, s1⟩ := St.when (n := 226) s
        clear s
        rw [Nat.beq_eq] at hb; subst hb
        obtain ⟨p, e1, sz1, H⟩ := s1.inv.obj y _ ho
        obtain ⟨p', n1, ad, e', sz', r1, r2, rfl, r4, r5⟩ := hx
        rw [H.pl] at r1; cases r1
        rw [H.el] at r2; cases r2
        obtain ⟨hun, hsz, hpos⟩ := elemA_und H.el
        have hn1 : n1 = es.length := Nat.eq_of_mul_eq_mul_right hpos (by rw [← r4, H.r])
        exact .of (sl _ _ _ _ e rfl) (hN.now s1 (by rw [hn1]; rfl))
      | _ => exact (St.fail (n := 226) s).elim
  | _ => exact arr s
theorem minA_ok {less : Bool} : ∀ (l : List AV) (us : List Value) (x r : AV) (v : Value), minA less x l = some r → RelL tb μ l us → Rel tb μ x v → ∃ q, (us.foldlM (if less then Builtin.min2 else Builtin.max2) v : Sem Value).run P w = .ok q w ∧ Rel tb μ r q
  | [], us, x, r, v, h, hl, hx => by
    cases x <;> first | (cases h; done) | skip
    simp only [minA, Option.some.injEq] at h; subst h
    rw [show us = [] from hl]
    exact ⟨v, rfl, hx⟩
  | a :: l, us, x, r, v, h, ⟨v1, vs, e, h1, h2⟩, hx => by
    subst e
    cases x <;> first | (simp [minA] at h; done) | skip
    cases a <;> first | (simp [minA] at h; done) | skip
    simp only [minA] at h
    cases hx; cases h1
    obtain ⟨q, q1, q2⟩ := minA_ok l vs _ r _ h h2 rfl
    refine ⟨q, ?_, q2⟩
    cases less with
    | true =>
      have e : ∀ x y : Int, minI x y = if x < y then x else y := fun x y => by unfold minI; by_cases hh : x < y <;> simp [hh]
      rw [if_pos rfl] at q1 ⊢
      simp only [cond_true, e] at q1
      simpa [Builtin.min2] using q1
    | false =>
      have e : ∀ x y : Int, maxI x y = if x < y then y else x := fun x y => by unfold maxI; by_cases hh : x < y <;> simp [hh]
      rw [if_neg (by simp)] at q1 ⊢
      simp only [cond_false, e] at q1
      simpa [Builtin.max2] using q1
end
end Px
end

section
namespace Px
open Go Go.RowKit
set_option linter.unusedVariables false
set_option linter.unusedSimpArgs false
theorem foldl_set (off : Nat) : ∀ (l : List Value) (k : Nat) (xs : Array Value), off + k + l.length ≤ xs.size →
    ((l.zipIdx k).foldl (fun cs (p : Value × Nat) => cs.setIfInBounds (off + p.2) p.1) xs).size = xs.size ∧
    ∀ j, ((l.zipIdx k).foldl (fun cs (p : Value × Nat) => cs.setIfInBounds (off + p.2) p.1) xs)[j]? = if off + k ≤ j ∧ j < off + k + l.length then l[j - (off + k)]? else xs[j]?
  | [], k, xs, h => ⟨rfl, fun j => by rw [if_neg (fun h => absurd h.2 (by simp only [List.length_nil]; omega))]; rfl⟩
  | v :: l, k, xs, h => by
    simp only [List.zipIdx_cons, List.foldl_cons]
    simp only [List.length_cons] at h
    obtain ⟨h1, h2⟩ := foldl_set off l (k + 1) (xs.setIfInBounds (off + k) v) (by rw [Array.size_setIfInBounds]; omega)
    refine ⟨by rw [h1, Array.size_setIfInBounds], fun j => ?_⟩
    rw [h2]
    by_cases e : off + (k + 1) ≤ j ∧ j < off + (k + 1) + l.length
    · rw [if_pos e, if_pos (by simp; omega)]
      obtain ⟨m, hm⟩ : ∃ m, j - (off + k) = m + 1 := ⟨j - (off + k) - 1, by omega⟩
      rw [hm, List.getElem?_cons_succ]; congr 1; omega
    · rw [if_neg e]
      by_cases e2 : j = off + k
      · subst e2
        rw [if_pos (by simp), Nat.sub_self]
        rw [Array.getElem?_setIfInBounds_self, if_pos (by omega)]; rfl
      · rw [if_neg (by simp; omega), Array.getElem?_setIfInBounds_ne (fun h => e2 h.symm)]
section
variable {P : Program} {tb : Tab} {B : Bs} {Φ : Res → Prop} {cE : Nat} {b : Nat} {μ : Mu} {h : Hp} {t : T AObj} {c : Nat} {F : Foot} {w w' : World}
def OR (tb : Tab) (μ : Mu) (x : Option AV) (v : Option Value) : Prop := (x = none ∧ v = none) ∨ ∃ a u, x = some a ∧ v = some u ∧ Rel tb μ a u
/-- A bound, told. -/
def Bd (v : Option Value) (d l : Nat) : Prop := (v = none ∧ l = d) ∨ ∃ k : IntKind, v = some (.int k (l : Int))
theorem intOf_ok {x : Option AV} {v : Option Value} {d l : Int} (h : intOf d x = some l) (hr : OR tb μ x v) (h0 : 0 ≤ l) : Bd v d.toNat l.toNat := by
  rcases hr with ⟨rfl, rfl⟩ | ⟨a, u, rfl, rfl, hr⟩
  · simp only [intOf, Option.some.injEq] at h; subst h; exact .inl ⟨rfl, rfl⟩
  · cases a <;> simp only [intOf] at h <;> first | (cases h; done) | skip
    simp only [Option.some.injEq] at h; subst h
    have e : u = _ := hr
    exact .inr ⟨_, by rw [e, Int.toNat_of_nonneg h0]⟩
theorem run_bound {k : IntKind} {l y : Nat} {code : BoundsCode} (h : l ≤ y) : (Instr.sliceBound (.int k (l : Int)) y code).run P w = .ok l w := by
  have : (0 : Int) ≤ (l : Int) ∧ (l : Int) ≤ (y : Int) := ⟨by omega, by omega⟩
  simp [Instr.sliceBound, asIntOf, h]
theorem run_bounds {isS : Bool} {len cap l h m : Nat} {lo hi mx : Option Value} (hl : Bd lo 0 l) (hh : Bd hi len h) (hm : Bd mx cap m) (h1 : l ≤ h) (h2 : h ≤ m) (h3 : m ≤ cap) (h4 : mx = none ∨ hi ≠ none) :
    (Instr.sliceBounds isS len cap lo hi mx).run P w = .ok (l, h, m) w := by
  rcases hm with ⟨rfl, rfl⟩ | ⟨km, rfl⟩
  · rcases hh with ⟨rfl, rfl⟩ | ⟨kh, rfl⟩
    · rcases hl with ⟨rfl, rfl⟩ | ⟨kl, rfl⟩
      · simp [Instr.sliceBounds]
      · simp [Instr.sliceBounds, run_bound h1]
    · rcases hl with ⟨rfl, rfl⟩ | ⟨kl, rfl⟩
      · simp [Instr.sliceBounds, run_bound h2]
      · simp [Instr.sliceBounds, run_bound h2, run_bound h1]
  · rcases hh with ⟨rfl, rfl⟩ | ⟨kh, rfl⟩
    · exact absurd rfl (h4.resolve_left (by simp))
    · rcases hl with ⟨rfl, rfl⟩ | ⟨kl, rfl⟩
      · simp [Instr.sliceBounds, run_bound h2, run_bound h3]
      · simp [Instr.sliceBounds, run_bound h2, run_bound h3, run_bound h1]
theorem bytesN_extract (s : ByteArray) (l h : Nat) : bytesN (s.extract l h) = ((bytesN s).drop l).take (h - l) := by
  unfold bytesN
  rw [ByteArray.data_extract, Array.toList_extract, List.extract_eq_take_drop, List.map_take, List.map_drop]
/-- A row's memory taken over. -/
theorem OR.none_of {x : Option AV} {v : Option Value} (h : OR tb μ x v) : x = none → v = none := by
  rcases h with ⟨_, h⟩ | ⟨a, u, h1, _⟩
  · exact fun _ => h
  · intro h; rw [h1] at h; cases h
theorem OR.some_of {x : Option AV} {v : Option Value} (h : OR tb μ x v) : x.isSome = true → v ≠ none := by
  rcases h with ⟨h, _⟩ | ⟨a, u, h1, h2, _⟩
  · intro e; rw [h] at e; cases e
  · intro _ e; rw [h2] at e; cases e
/-- A part of a slice. -/
theorem slice_part (ok : TabOk P tb) {ty e sz : Nat} (hel : elemA tb ty = some (e, sz)) {fz : Fz} {es : List PV} {A : Option Addr} {cp : Nat} (hr : RelP tb fz ty (.node es) (.slice A es.length cp)) {l h m : Nat} (h1 : l ≤ h) (h2 : h ≤ m) (h3 : h ≤ es.length) :
    RelP tb fz ty (.node ((es.drop l).take (h - l))) (.slice (if m = l then A else A.map (·.add (l * sz))) (h - l) (m - l)) := by
  obtain ⟨hun, hu, hsz, hpos⟩ := elemA_ok ok hel
  simp only at hun hu hsz hpos
  have hlen : ((es.drop l).take (h - l)).length = h - l := by rw [List.length_take, List.length_drop]; omega
  refine .inr (.inr ⟨e, if m = l then A else A.map (·.add (l * sz)), m - l, hun, by rw [hlen], by rw [hlen]; omega, ?_⟩)
  by_cases hlh : l = h
  · left; rw [hlh]; simp
  · right
    obtain ⟨_, A', c', e1, _, h4⟩ := relP_slice hun hr
    simp only [Value.slice.injEq] at e1
    rcases h4 with h4 | ⟨bk, o, sz', h5, h6, h7⟩
    · have : es = [] := h4
      rw [this] at h3; simp at h3; omega
    · rw [hsz] at h6; cases h6
      have h7 : RelE tb fz e sz bk es o := h7
      refine ⟨bk, o + l * sz, sz, ?_, hsz, relE_take (relE_drop h7 l (by omega)) _⟩
      rw [if_neg (by omega), e1.1, h5]
      simp [addr_add]
theorem run_slice (ok : TabOk P tb) {ty e sz : Nat} (hel : elemA tb ty = some (e, sz)) {A : Option Addr} {n cp l h m : Nat} {lo hi mx : Option Value} (hl : Bd lo 0 l) (hh : Bd hi n h) (hm : Bd mx cp m) (h1 : l ≤ h) (h2 : h ≤ m) (h3 : m ≤ cp) (h4 : mx = none ∨ hi ≠ none) :
    (Instr.sliceAt ty (.slice A n cp) lo hi mx).run P w = .ok (.slice (if m = l then A else A.map (·.add (l * sz))) (h - l) (m - l)) w := by
  obtain ⟨hun, hu, hsz, hpos⟩ := elemA_ok ok hel
  have hB := run_bounds (P := P) (w := w) (isS := true) hl hh hm h1 h2 h3 h4
  simp [Instr.sliceAt, Instr.slice, run_underlying hu, hB, run_sz ok hsz]
theorem sliceP_ok (ok : TabOk P tb) (hΦ : ∀ q, Φ q → q.2.2.1 ≤ cE) {ty : TypeId} {es : List PV} {u : Value} {lo hi mx : Option AV} {lo' hi' mx' : Option Value} {k : AV → E} {N : Value → World → Prop} (s : St tb B Φ cE (sliceP tb ty es lo hi mx k) b μ t c F w) (hx : RelP tb μ.fz ty (.node es) u) (hlo : OR tb μ lo lo') (hhi : OR tb μ hi hi') (hmx : OR tb μ mx mx') (hN : Then tb B Φ cE b k μ c N) :
    Runs P (Instr.sliceAt ty u lo' hi' mx') w N := by
  unfold sliceP at s
  cases hel : elemA tb ty with
  | none => rw [hel] at s; exact (St.fail (n := 143) s).elim
  | some pe =>
    rw [hel] at s
    obtain ⟨e, sz⟩ := pe
    simp only at s
    obtain ⟨hun, hu, hsz, hpos⟩ := elemA_ok ok hel
    simp only at hun hu hsz hpos
    obtain ⟨_, A, cp, rfl, hle, _⟩ := relP_slice hun hx
    have hle : es.length ≤ cp := hle
    have hx : RelP tb μ.fz ty (.node es) (.slice A es.length cp) := hx
    show Runs P (Instr.sliceAt ty (.slice A es.length cp) lo' hi' mx') w N
    obtain ⟨l, hl, s⟩ := St.opt s
    obtain ⟨h, hh, s⟩ := St.opt s
    cases mx with
    | none =>
      have hm0 := hmx.none_of rfl
      subst hm0
      obtain ⟨hq, s⟩ := St.ck (n := 141) s
      obtain ⟨q1, q2, q3⟩ : 0 ≤ l ∧ l ≤ h ∧ h ≤ (es.length : Int) := by
        simp only [cutOk, Bool.and_eq_true, decide_eq_true_eq] at hq
        exact hq
      have r := run_slice (w := w) ok hel (A := A) (n := es.length) (cp := cp) (intOf_ok hl hlo q1) (by have := intOf_ok hh hhi (by omega); rwa [lenP, Int.toNat_natCast] at this) (m := cp) (mx := none) (.inl ⟨rfl, rfl⟩) (by omega) (by omega) (Nat.le_refl _) (.inl rfl)
      exact .of r (hN.now s (slice_part ok hel hx (by omega) (by omega) (by omega)))
    | some mv =>
      obtain ⟨hb, s⟩ := St.when (n := 142) s
      obtain ⟨m, hm, s⟩ := St.opt s
      obtain ⟨hq, s⟩ := St.ck (n := 141) s
      obtain ⟨e0, hq1, hq2, hq3⟩ : h = m ∧ 0 ≤ l ∧ l ≤ h ∧ h ≤ (es.length : Int) := by
        simp only [andB, eqI, cutOk, Bool.and_eq_true, decide_eq_true_eq, beq_iff_eq] at hq
        exact hq
      rw [← e0] at hm
      have hmb : Bd mx' cp h.toNat := by
        rcases intOf_ok hm hmx (by omega) with ⟨e1, _⟩ | e1
        · rcases hmx with ⟨e2, _⟩ | ⟨_, _, _, e2, _⟩
          · cases e2
          · rw [e2] at e1; cases e1
        · exact .inr e1
      have r := run_slice (w := w) ok hel (A := A) (n := es.length) (cp := cp) (intOf_ok hl hlo hq1) (by have := intOf_ok hh hhi (by omega); rwa [lenP, Int.toNat_natCast] at this) (m := h.toNat) hmb (by omega) (Nat.le_refl _) (by omega) (.inr (hhi.some_of hb))
      have hrel := slice_part ok hel hx (l := l.toNat) (h := h.toNat) (m := h.toNat) (by omega) (Nat.le_refl _) (by omega)
      obtain ⟨μ1, l1, r1, f1, s1⟩ := St.newVec hΦ s (A := if h.toNat = l.toNat then A else A.map (·.add (l.toNat * sz))) (n := h.toNat - l.toNat) hel (fun hA => by
        by_cases e1 : h.toNat = l.toNat
        · omega
        · rw [if_neg e1] at hA
          cases A with
          | none =>
            exfalso
            obtain ⟨_, A', c', e2, _, h4⟩ := relP_slice hun hx
            simp only [Value.slice.injEq] at e2
            rcases h4 with h4 | ⟨bk, o, sz', h5, _⟩
            · have : es = [] := h4
              rw [this] at hq3; simp at hq3; omega
            · rw [← e2.1] at h5; cases h5
          | some a => cases hA)
      exact .of r (hN _ _ _ _ _ _ _ s1 l1 ⟨by rw [f1]; exact hrel, r1, e, hun⟩)
theorem slice_ok (ok : TabOk P tb) (hΦ : ∀ q, Φ q → q.2.2.1 ≤ cE) {ty : TypeId} {x : AV} {u : Value} {lo hi mx : Option AV} {lo' hi' mx' : Option Value} {k : AV → E} {N : Value → World → Prop} (s : St tb B Φ cE (sliceE tb ty x lo hi mx k) b μ t c F w) (hx : Rel tb μ x u) (hlo : OR tb μ lo lo') (hhi : OR tb μ hi hi') (hmx : OR tb μ mx mx') (hN : Then tb B Φ cE b k μ c N) :
    Runs P (Instr.sliceAt ty u lo' hi' mx') w N := by
  cases x with
  | str s0 =>
    obtain ⟨ba, rfl, rfl⟩ := hx
    simp only [sliceE] at s
    cases mx with
    | some _ => exact (St.fail (n := 147) s).elim
    | none =>
      have hm0 := hmx.none_of rfl
      subst hm0
      simp only at s
      cases e : und tb ty with
      | none => rw [e] at s; exact (St.fail (n := 146) s).elim
      | some d =>
        rw [e] at s
        cases d <;> first | (exact (St.fail (n := 146) s).elim) | skip
        obtain ⟨l, hl, s⟩ := St.opt s
        obtain ⟨h, hh, s⟩ := St.opt s
        obtain ⟨hq, s⟩ := St.ck (n := 145) s
        obtain ⟨q1, q2, q3⟩ : 0 ≤ l ∧ l ≤ h ∧ h ≤ (ba.size : Int) := by
          simp only [cutOk, Bool.and_eq_true, decide_eq_true_eq] at hq
          rw [lenS, bytesN_len] at hq
          exact hq
        have hB := run_bounds (P := P) (w := w) (isS := false) (intOf_ok hl hlo q1) (by have := intOf_ok hh hhi (by omega); rwa [lenS, bytesN_len, Int.toNat_natCast] at this) (m := ba.size) (cap := ba.size) (mx := none) (.inl ⟨rfl, rfl⟩) (by omega) (by omega) (Nat.le_refl _) (.inl rfl)
        refine .of (u := .string (ba.extract l.toNat h.toNat)) ?_ (hN.now s ⟨_, rfl, bytesN_extract ba l.toNat h.toNat⟩)
        simp [Instr.sliceAt, Instr.slice, run_underlying (und_ok ok e), hB]
  | pv t' p =>
    obtain ⟨hb, s1⟩ := St.when (n := 148) s
    clear s
    rw [Nat.beq_eq] at hb; subst hb
    cases hel : elemA tb ty with
    | none => unfold sliceP at s1; rw [hel] at s1; exact (St.fail (n := 143) s1).elim
    | some pe =>
      obtain ⟨hun, _⟩ := elemA_und hel
      obtain ⟨ep, _⟩ := relP_slice hun hx
      refine sliceP_ok ok hΦ s1 ?_ hlo hhi hmx hN
      rw [← ep]; exact hx
  | vs y ver t' es =>
    obtain ⟨hb, s1⟩ := St.when (n := 149) s
    clear s
    rw [Nat.beq_eq] at hb; subst hb
    exact sliceP_ok ok hΦ s1 hx.1 hlo hhi hmx hN
  | nils =>
    have ev : u = .slice none 0 0 := hx
    subst ev
    cases hel : elemA tb ty with
    | none => simp only [sliceE] at s; unfold sliceP at s; rw [hel] at s; exact (St.fail (n := 143) s).elim
    | some pe =>
      obtain ⟨hun, _⟩ := elemA_und hel
      exact sliceP_ok ok hΦ s (relP_nil hun _) hlo hhi hmx hN
  | _ => exact (St.fail (n := 150) s).elim
theorem strsA_ok : ∀ {l : List AV} {ss : List (List Nat)} {vs : List Value}, strsA l = some ss → RelL tb μ l vs → ss.length = l.length ∧ ∀ i, i < ss.length → ∃ ba : ByteArray, vs[i]? = some (.string ba) ∧ bytesN ba = ss.getD i []
  | [], ss, vs, h, hr => by simp only [strsA, Option.some.injEq] at h; subst h; exact ⟨rfl, fun i hi => by simp at hi⟩
  | a :: l, ss, vs, h, ⟨v, vs', e, h1, h2⟩ => by
    subst e
    cases a <;> simp only [strsA] at h <;> first | (cases h; done) | skip
    cases e : strsA l with
    | none => rw [e] at h; cases h
    | some r =>
      rw [e] at h
      simp only [Option.some.injEq] at h; subst h
      obtain ⟨k1, k2⟩ := strsA_ok e h2
      obtain ⟨ba, rfl, hb⟩ := h1
      refine ⟨by simp [k1], fun i hi => ?_⟩
      cases i with
      | zero => exact ⟨ba, rfl, hb⟩
      | succ i => simpa using k2 i (by simpa using hi)
end
end Px
end

section
namespace Px
open Go Go.RowKit
set_option linter.unusedVariables false
set_option linter.unusedSimpArgs false
section
variable {P : Program} {tb : Tab} {B : Bs} {Φ : Res → Prop} {cE : Nat} {b : Nat} {μ : Mu} {h : Hp} {t : T AObj} {c : Nat} {F : Foot} {w w' : World}
theorem index_ok (ok : TabOk P tb) {ty : TypeId} {cn : Bool} {x i : AV} {u j : Value} {k : AV → E} {N : Value → World → Prop} (s : St tb B Φ cE (indexE tb ty cn x i k) b μ t c F w) (hx : Rel tb μ x u) (hi : Rel tb μ i j) (hN : Then tb B Φ cE b k μ c N) : Runs P (Instr.index ty u j) w N := by
  cases i with
  | int ik n =>
    cases hi
    cases x with
    | str s0 =>
      obtain ⟨ba, rfl, rfl⟩ := hx
      simp only [indexE] at s
      cases e : und tb ty with
      | none => rw [e] at s; exact (St.fail (n := 251) s).elim
      | some d =>
        rw [e] at s
        cases d <;> first | (exact (St.fail (n := 251) s).elim) | skip
        obtain ⟨hn, s⟩ := St.ck (n := 250) s
        have hn2 : 0 ≤ n ∧ n < ((bytesN ba).length : Int) := by simpa [inS] using hn
        rw [bytesN_len] at hn2
        obtain ⟨m, rfl⟩ : ∃ m : Nat, n = m := ⟨n.toNat, by omega⟩
        have hm : m < ba.size := by omega
        have hb : ba[m]? = some (ba[m]'hm) := by simp [hm]
        refine .of (u := .int .u8 ((ba[m]'hm).toNat : Int)) (by simp [Instr.index, asIntOf, run_underlying (und_ok ok e), hb]) (hN.now s ?_)
        show Value.int .u8 _ = .int .u8 _
        have : getS (bytesN ba) (m : Int) = ((ba[m]'hm).toNat : Int) := by
          unfold getS bytesN
          rw [Int.toNat_natCast, List.getD_eq_getElem?_getD, List.getElem?_map]
          have : ba.data.toList[m]? = some (ba[m]'hm) := by rw [Array.getElem?_toList]; exact Array.getElem?_eq_getElem hm
          rw [this]; rfl
        rw [this]
    | agg cs =>
      obtain ⟨xs, rfl, hr⟩ := hx
      simp only [indexE] at s
      cases e : und tb ty with
      | none => rw [e] at s; exact (St.fail (n := 256) s).elim
      | some d =>
        rw [e] at s
        cases d <;> first | (exact (St.fail (n := 256) s).elim) | skip
        rename_i len el
        cases cn with
        | true =>
          simp only [cond_true] at s
          cases en : szA tb el with
          | none => rw [en] at s; exact (St.fail (n := 253) s).elim
          | some sz =>
            rw [en] at s
            obtain ⟨hn, s⟩ := St.ck (n := 252) s
            obtain ⟨a, ha, s2⟩ := St.opt s
            clear s
            have hn2 : 0 ≤ n ∧ n < (len : Int) := by simpa [inN] using hn
            obtain ⟨m, rfl⟩ : ∃ m : Nat, n = m := ⟨n.toNat, by omega⟩
            have hm : m < len := by omega
            obtain ⟨r, h1, h2⟩ := part_ok ok hr ha w
            rw [Int.toNat_natCast] at h1
            exact .of (by simp [Instr.index, asIntOf, run_underlying (und_ok ok e), hm, run_sz ok en, h1]) (hN.now s2 h2)
        | false =>
          simp only [cond_false] at s
          cases e2 : und tb el with
          | none => rw [e2] at s; exact (St.fail (n := 255) s).elim
          | some d2 =>
            rw [e2] at s
            cases d2 <;> first | (exact (St.fail (n := 255) s).elim) | skip
            cases e3 : strsA cs with
            | none => rw [e3] at s; exact (St.fail (n := 255) s).elim
            | some ss =>
              rw [e3] at s
              cases en : szA tb el with
              | none => rw [en] at s; exact (St.fail (n := 255) s).elim
              | some sz =>
                rw [en] at s
                obtain ⟨hb, s1⟩ := St.when (n := 255) s
                clear s
                rw [Bool.and_eq_true, Nat.beq_eq, Nat.beq_eq] at hb
                obtain ⟨e4, e5⟩ := hb
                obtain ⟨hn, s2⟩ := St.ck (n := 254) s1
                clear s1
                have hn2 : 0 ≤ n ∧ n < (len : Int) := by simpa [inN] using hn
                obtain ⟨m, rfl⟩ : ∃ m : Nat, n = m := ⟨n.toNat, by omega⟩
                have hm : m < len := by omega
                obtain ⟨k1, k2⟩ := strsA_ok e3 hr
                obtain ⟨ba, k3, k4⟩ := k2 m (by omega)
                have hlt := (List.getElem?_eq_some_iff.1 k3).1
                have r := run_part ok (xs := xs) (off := m) (sz := 1) (v := .string ba) (ty := el) (.inr ⟨by unfold isAggA; rw [e2], rfl⟩) (by rw [en, e4]) (by
                  show [Value.string ba] = _
                  rw [List.drop_eq_getElem_cons hlt, List.take_succ_cons, List.take_zero, (List.getElem?_eq_some_iff.1 k3).2]) rfl w
                refine .of (u := .string ba) (by simp [Instr.index, asIntOf, run_underlying (und_ok ok e), hm, run_sz ok en, e4, r]) (hN.now s2 ⟨ba, rfl, ?_⟩)
                rw [k4]; rfl
    | pv t' p =>
      simp only [indexE] at s
      cases e : und tb ty with
      | none => rw [e] at s; exact (St.fail (n := 258) s).elim
      | some d =>
        rw [e] at s
        cases d <;> first | (exact (St.fail (n := 258) s).elim) | skip
        rename_i len el
        obtain ⟨hb, s1⟩ := St.when (n := 257) s
        clear s
        rw [Nat.beq_eq] at hb; subst hb
        obtain ⟨hn, s⟩ := St.ck (n := 257) s1
        obtain ⟨a, ha, s2⟩ := St.opt s
        clear s s1
        have hn2 : 0 ≤ n ∧ n < (len : Int) := by simpa [inN] using hn
        obtain ⟨m, rfl⟩ : ∃ m : Nat, n = m := ⟨n.toNat, by omega⟩
        have hm : m < len := by omega
        obtain ⟨_, xs, sz, k1, rfl, k3, k4, k5⟩ := relP_array e hx
        obtain ⟨q, m1, m2, m3, m4⟩ := relN_get k5 m (by omega)
        rw [Nat.zero_add] at m3
        exact .of (by simp [Instr.index, asIntOf, run_underlying (und_ok ok e), hm, run_sz ok k1, run_part ok m2 k1 m3 m4 w]) (hN.now s2 (expandV_ok ha m1))
    | _ => exact (St.fail (n := 259) s).elim
  | _ => exact (St.fail (n := 260) s).elim
def PartsR (tb : Tab) (μ : Mu) : List (Nat × AV) → List (Nat × Value) → Prop
  | [], l => l = []
  | p :: ps, l => ∃ v vs, l = (p.1, v) :: vs ∧ Rel tb μ p.2 v ∧ PartsR tb μ ps vs
theorem fill_ok {place : Nat → Option (Nat × Nat)} : ∀ {ps : List (Nat × AV)} {l : List (Nat × Value)} {cs cs' : List AV} {xs : Array Value}, fillA tb place cs ps = some cs' → PartsR tb μ ps l → RelL tb μ cs xs.toList → ∃ ys : Array Value, Instr.fill place xs l = some ys ∧ RelL tb μ cs' ys.toList
  | [], l, cs, cs', xs, h, hp, hr => by simp only [fillA, Option.some.injEq] at h; subst h; rw [show l = [] from hp]; exact ⟨xs, rfl, hr⟩
  | p :: ps, l, cs, cs', xs, h, ⟨v, vs, e, h1, h2⟩, hr => by
    subst e
    obtain ⟨i, x⟩ := p
    simp only [fillA] at h
    cases e : place i with
    | none => rw [e] at h; cases h
    | some q =>
      obtain ⟨off, size⟩ := q
      rw [e] at h
      simp only at h
      cases eu : cellsV tb x with
      | none => rw [eu] at h; cases h
      | some us =>
      rw [eu] at h
      simp only at h
      cases hb : (Nat.beq us.length size && Nat.ble (off + size) cs.length) with
      | false => rw [hb] at h; cases h
      | true =>
        rw [hb] at h
        simp only [cond_true] at h
        simp only [Bool.and_eq_true, Nat.beq_eq, Nat.ble_eq] at hb
        cases el : lay cs off us with
        | none => rw [el] at h; cases h
        | some cs1 =>
          rw [el] at h
          have hc := cellsV_ok eu (show Rel tb μ x v from h1)
          have hcl := hc.len
          have hrl := hr.len
          rw [Array.length_toList] at hcl hrl
          obtain ⟨l1, l2, l3⟩ := lay_spec _ _ _ _ el
          obtain ⟨f1, f2⟩ := foldl_set off v.cells.toList 0 xs (by rw [Array.length_toList]; omega)
          have hz : v.cells.zipIdx.foldl (fun cs (c, j) => cs.setIfInBounds (off + j) c) xs = (v.cells.toList.zipIdx 0).foldl (fun cs (p : Value × Nat) => cs.setIfInBounds (off + p.2) p.1) xs := by
            rw [← Array.foldl_toList, Array.toList_zipIdx]
          obtain ⟨ys, hy1, hy2⟩ := fill_ok (xs := v.cells.zipIdx.foldl (fun cs (c, j) => cs.setIfInBounds (off + j) c) xs) h h2 (RelL.of (by rw [Array.length_toList, hz, f1, l2, hrl]; omega) fun j a ha => by
            rw [Array.getElem?_toList, hz, f2]
            rw [l3] at ha
            rw [Array.length_toList]
            by_cases ej : off ≤ j ∧ j < off + us.length
            · rw [if_pos ej] at ha
              rw [if_pos (by omega), Nat.add_zero]
              exact hc.get _ _ ha
            · rw [if_neg ej] at ha
              rw [if_neg (by omega)]
              have := hr.get _ _ ha
              simpa using this)
          refine ⟨ys, ?_, hy2⟩
          simp only [Instr.fill, e]
          rw [if_neg (by simp; omega)]
          exact hy1
theorem fieldPls_ok (ok : TabOk P tb) : ∀ {fs : List Field} {l : List (Nat × Nat)}, fieldPls tb fs = some l → fs.mapM (fun f => (P.info? f.type).map fun i => (f.offset, i.size)) = some l
  | [], l, h => by simp only [fieldPls, Option.some.injEq] at h; subst h; rfl
  | f :: fs, l, h => by
    simp only [fieldPls] at h
    cases e : szA tb f.type with
    | none => rw [e] at h; cases h
    | some n =>
      rw [e] at h
      cases e2 : fieldPls tb fs with
      | none => rw [e2] at h; cases h
      | some m =>
        rw [e2] at h; simp only [Option.some.injEq] at h; subst h
        obtain ⟨i, hi, rfl⟩ := szA_ok ok e
        simp [List.mapM_cons, hi, fieldPls_ok ok e2]
theorem buildA_ok (ok : TabOk P tb) {ty : TypeId} {ps : List (Nat × AV)} {parts : Array (Nat × Value)} {v : AV} (h : buildA tb ty ps = some v) (hp : PartsR tb μ ps parts.toList) (w : World) : ∃ r, (Instr.build ty parts).run P w = .ok r w ∧ Rel tb μ v r := by
  unfold buildA at h
  cases ez : zeroA tb ty with
  | none => rw [ez] at h; cases h
  | some z =>
    rw [ez] at h
    obtain ⟨i, zv, hi, hzv, hzr⟩ := zeroA_ok ok ez
    simp only at h
    cases e : und tb ty with
    | none => rw [e] at h; cases h
    | some d =>
      rw [e] at h
      have hu := und_ok ok e
      cases d <;> first | (cases h; done) | skip
      · rename_i n el
        simp only at h
        cases en : szA tb el with
        | none => rw [en] at h; cases h
        | some sz =>
          rw [en] at h
          simp only at h
          obtain ⟨ie, hie, rfl⟩ := szA_ok ok en
          cases eq : cellsV tb z with
          | none => rw [eq] at h; cases h
          | some zs =>
          rw [eq] at h
          simp only at h
          cases ef : fillA tb (fun i => some (i * ie.size, ie.size)) zs ps with
          | none => rw [ef] at h; cases h
          | some cs =>
            rw [ef] at h; simp only [Option.some.injEq] at h; subst h
            obtain ⟨ys, hy1, hy2⟩ := fill_ok ef hp (cellsV_ok eq (hzr μ))
            exact ⟨.agg ys, run_build w ty parts ys (by simp only [Program.built, hi, hu, hzv, hie]; exact hy1), ys, rfl, hy2⟩
      · rename_i fs
        simp only at h
        cases en : fieldPls tb fs.toList with
        | none => rw [en] at h; cases h
        | some pl =>
          rw [en] at h
          simp only at h
          cases eq : cellsV tb z with
          | none => rw [eq] at h; cases h
          | some zs =>
          rw [eq] at h
          simp only at h
          cases ef : fillA tb (fun i => pl[i]?) zs ps with
          | none => rw [ef] at h; cases h
          | some cs =>
            rw [ef] at h; simp only [Option.some.injEq] at h; subst h
            obtain ⟨ys, hy1, hy2⟩ := fill_ok ef hp (cellsV_ok eq (hzr μ))
            exact ⟨.agg ys, run_build w ty parts ys (by simp only [Program.built, hi, hu, hzv, fieldPls_ok ok en]; simpa using hy1), ys, rfl, hy2⟩
theorem relE_bytes {fz : Fz} {el sz bk : Nat} (e3 : und tb el = some (.int .u8)) : ∀ {ps : List PV} {o : Nat}, RelE tb fz el sz bk ps o → allByte ps = true → ∃ l : List UInt8, l.length = ps.length ∧ l.map UInt8.toNat = textP ps ∧ ∀ j (hj : j < l.length), fz bk (o + j) = some (.int .u8 (l[j].toNat : Int))
  | [], o, _, _ => ⟨[], rfl, rfl, fun j hj => by simp at hj⟩
  | p :: ps, o, ⟨⟨u, h1, h2, h3, h4⟩, h5⟩, hb => by
    simp only [allByte, List.all_cons, Bool.and_eq_true] at hb
    obtain ⟨hb1, hb2⟩ := hb
    simp only [isByte, Bool.and_eq_true, decide_eq_true_eq] at hb1
    obtain ⟨_, rfl⟩ := relP_int e3 h1
    have hsz : sz = 1 := h3.symm
    subst hsz
    obtain ⟨l, k1, k2, k3⟩ := relE_bytes e3 h5 hb2
    have hu : (UInt8.ofNat p.i.toNat).toNat = p.i.toNat := by
      have : p.i.toNat < 256 := by omega
      simp [UInt8.toNat_ofNat', Nat.mod_eq_of_lt this]
    refine ⟨UInt8.ofNat p.i.toNat :: l, by simp [k1], by simp [textP, hu]; simpa [textP] using k2, fun j hj => ?_⟩
    cases j with
    | zero =>
      have := h4 0 (.int .u8 p.i) rfl
      rw [this, List.getElem_cons_zero, hu]
      congr 2; omega
    | succ j =>
      have := k3 j (by simpa using hj)
      rw [show o + (j + 1) = o + 1 + j by omega, this]; rfl
/-- Bytes as a text. -/
theorem bytes_back (ok : TabOk P tb) (I : Inv tb B μ h w) {src dst el : TypeId} (e1 : und tb src = some (.slice el)) (e3 : und tb el = some (.int .u8)) (h2 : P.underlying dst = some .string) {p : PV} {u : Value} (hr : RelP tb μ.fz src p u) (hb : allByte p.l = true) : ∃ ba : ByteArray, (convert src dst u).run P w = .ok (.string ba) w ∧ bytesN ba = textP p.l := by
  have h1 := und_ok ok e1
  have h3 := und_ok ok e3
  obtain ⟨_, A, c', rfl, hle, h4⟩ := relP_slice e1 hr
  cases A with
  | none =>
    rcases h4 with h4 | ⟨_, _, _, h4, _⟩
    · rw [h4]
      exact ⟨.empty, by simp [convert, run_underlying h1, run_underlying h2, run_underlying h3, Conv.bytesToString], rfl⟩
    · cases h4
  | some ad =>
    rcases h4 with h4 | ⟨bk, o, sz, h5, h6, h7⟩
    · rw [h4]
      have := run_convert_bytes_back w src dst el ad c' [] h1 h3 h2 (fun j hj => by simp at hj)
      exact ⟨_, this, rfl⟩
    · obtain ⟨l, k1, k2, k3⟩ := relE_bytes e3 h7 hb
      cases h5
      have := run_convert_bytes_back w src dst el ⟨bk, o, none⟩ c' l h1 h3 h2 (fun j hj => by rw [addr_add]; exact (I.fz _ _ _ (k3 j hj)).1)
      rw [k1] at this
      exact ⟨_, this, k2⟩
theorem bytesE_ok (ok : TabOk P tb) {src dst : TypeId} {us : TypeDesc} (e1 : und tb src = some us) (h2 : P.underlying dst = some .string) {p : PV} {u : Value} {k : AV → E} {N : Value → World → Prop} (s : St tb B Φ cE (bytesE tb us p.l k) b μ t c F w) (hr : (∃ el, us = .slice el) → RelP tb μ.fz src p u) (hN : Then tb B Φ cE b k μ c N) : Runs P (convert src dst u) w N := by
  cases us <;> first | (exact (St.fail (n := 122) s).elim) | skip
  rename_i el
  simp only [bytesE] at s
  cases e3 : und tb el with
  | none => rw [e3] at s; exact (St.fail (n := 122) s).elim
  | some d3 =>
    rw [e3] at s
    cases d3 <;> first | (exact (St.fail (n := 122) s).elim) | skip
    rename_i kk
    cases kk <;> first | (exact (St.fail (n := 122) s).elim) | skip
    obtain ⟨hb, s⟩ := St.ck (n := 123) s
    obtain ⟨ba, r1, r2⟩ := bytes_back ok s.inv e1 e3 h2 (hr ⟨el, rfl⟩) hb
    exact .of r1 (hN.now s ⟨ba, rfl, r2⟩)
theorem conv_ok (ok : TabOk P tb) {src dst : TypeId} {x : AV} {u : Value} {k : AV → E} {N : Value → World → Prop} (s : St tb B Φ cE (convE tb src dst x k) b μ t c F w) (hx : Rel tb μ x u) (hN : Then tb B Φ cE b k μ c N) :
    Runs P (convert src dst u) w N := by
  unfold convE at s
  cases e1 : und tb src with
  | none => rw [e1] at s; exact (St.fail (n := 120) s).elim
  | some us =>
    rw [e1] at s
    simp only at s
    cases e2 : und tb dst with
    | none => rw [e2] at s; exact (St.fail (n := 127) s).elim
    | some ud =>
      rw [e2] at s
      have h1 := und_ok ok e1
      have h2 := und_ok ok e2
      cases ud <;> first | (exact (St.fail (n := 127) s).elim) | skip
      · rename_i j
        cases x with
        | int k0 n =>
          cases hx
          refine .of (u := .int j (j.wrap n)) ?_ (hN.now s rfl)
          simp [convert, run_underlying h1, run_underlying h2, Conv.intToInt]
        | _ => exact (St.fail (n := 121) s).elim
      · cases x with
        | str s0 =>
          obtain ⟨ba, rfl, rfl⟩ := hx
          refine .of (u := .string ba) ?_ (hN.now s ⟨ba, rfl, rfl⟩)
          simp [convert, run_underlying h1, run_underlying h2]
        | nils =>
          have ev : u = .slice none 0 0 := hx
          exact bytesE_ok ok (p := .node []) e1 h2 s (fun ⟨el, he⟩ => by rw [ev]; exact relP_nil (by rw [e1, he]) _) hN
        | pv t' p =>
          obtain ⟨hb, s1⟩ := St.when (n := 122) s
          clear s
          rw [Nat.beq_eq] at hb; subst hb
          exact bytesE_ok ok (p := p) e1 h2 s1 (fun _ => hx) hN
        | vs y ver t' es =>
          obtain ⟨hb, s1⟩ := St.when (n := 122) s
          clear s
          rw [Nat.beq_eq] at hb; subst hb
          exact bytesE_ok ok (p := .node es) e1 h2 s1 (fun _ => hx.1) hN
        | _ => exact (St.fail (n := 124) s).elim
end
end Px
end

section
namespace Px
open Go Go.RowKit
set_option linter.unusedVariables false
set_option linter.unusedSimpArgs false
section
variable {P : Program} {tb : Tab} {B : Bs} {Φ : Res → Prop} {cE : Nat} {b : Nat} {μ : Mu} {h : Hp} {t : T AObj} {c : Nat} {F : Foot} {w w' : World}
def idxL : Nat → List Value → List (Nat × Value)
  | _, [] => []
  | i, v :: vs => (i, v) :: idxL (i + 1) vs
def flatC : List Value → List Value
  | [] => []
  | v :: vs => v.cells.toList ++ flatC vs
theorem fill_seq {sz : Nat} : ∀ (vs : List Value) (i : Nat) (xs : Array Value), (∀ v ∈ vs, v.cells.size = sz) → (i + vs.length) * sz ≤ xs.size →
    ∃ ys : Array Value, Instr.fill (fun i => some (i * sz, sz)) xs (idxL i vs) = some ys ∧ ys.size = xs.size ∧ (flatC vs).length = vs.length * sz ∧ ∀ j, ys[j]? = if i * sz ≤ j ∧ j < (i + vs.length) * sz then (flatC vs)[j - i * sz]? else xs[j]?
  | [], i, xs, _, _ => ⟨xs, rfl, rfl, by simp [flatC], fun j => by rw [if_neg (by simp only [List.length_nil, Nat.add_zero]; omega)]⟩
  | v :: vs, i, xs, hs, hl => by
    have hv := hs v (List.mem_cons_self ..)
    have e1 : (i + 1 + vs.length) * sz = (i + (v :: vs).length) * sz := by rw [List.length_cons]; congr 1; omega
    have e2 : (i + 1) * sz = i * sz + sz := by rw [Nat.succ_mul]
    have e3 : (i + (v :: vs).length) * sz = i * sz + sz + vs.length * sz := by rw [List.length_cons, ← Nat.succ_mul, ← Nat.add_mul]; congr 1; omega
    have hvl : v.cells.toList.length = sz := by rw [Array.length_toList, hv]
    obtain ⟨f1, f2⟩ := foldl_set (i * sz) v.cells.toList 0 xs (by rw [hvl]; omega)
    have hz : v.cells.zipIdx.foldl (fun cs (c, j) => cs.setIfInBounds (i * sz + j) c) xs = (v.cells.toList.zipIdx 0).foldl (fun cs (p : Value × Nat) => cs.setIfInBounds (i * sz + p.2) p.1) xs := by
      rw [← Array.foldl_toList, Array.toList_zipIdx]
    obtain ⟨ys, k1, k2, k3, k4⟩ := fill_seq vs (i + 1) (v.cells.zipIdx.foldl (fun cs (c, j) => cs.setIfInBounds (i * sz + j) c) xs) (fun u hu => hs u (List.mem_cons_of_mem _ hu)) (by rw [hz, f1, e1]; exact hl)
    refine ⟨ys, ?_, by rw [k2, hz, f1], by simp only [flatC, List.length_append, hvl, k3, List.length_cons, Nat.succ_mul]; omega, fun j => ?_⟩
    · simp only [idxL, Instr.fill]
      rw [if_neg (by simp; omega)]
      exact k1
    · rw [k4, hz, f2, hvl, e1, e2]
      by_cases a1 : i * sz + sz ≤ j ∧ j < (i + (v :: vs).length) * sz
      · rw [if_pos a1, if_pos (by omega)]
        simp only [flatC]
        rw [List.getElem?_append_right (by omega), hvl]
        congr 1; omega
      · rw [if_neg a1]
        by_cases a2 : i * sz + 0 ≤ j ∧ j < i * sz + 0 + sz
        · rw [if_pos a2, if_pos (by omega)]
          simp only [flatC]
          rw [List.getElem?_append_left (by omega)]
          congr 1
        · rw [if_neg a2, if_neg (by omega)]
theorem normParts_ok {e sz : Nat} : ∀ {ps : List (Nat × AV)} {i : Nat} {es : List PV} {l : List (Nat × Value)}, normParts tb e sz ps i = some es → PartsR tb μ ps l →
    ∃ vs, l = idxL i vs ∧ vs.length = es.length ∧ ps.length = es.length ∧ (∀ v ∈ vs, v.cells.size = sz) ∧ ∀ d (g : Nat → Option Value), (∀ j v, (flatC vs)[j]? = some v → g (d + j) = some v) → ArrAt tb μ.fz e sz g es d
  | [], i, es, l, h, hp => by
    simp only [normParts, Option.some.injEq] at h; subst h
    exact ⟨[], hp, rfl, rfl, (fun v hv => by cases hv), fun _ _ _ => trivial⟩
  | (j, a) :: ps, i, es, l, h, ⟨v, vs, e1, h1, h2⟩ => by
    subst e1
    simp only [normParts] at h
    cases eb : Nat.beq i j with
    | false => rw [eb] at h; cases h
    | true =>
      rw [eb] at h
      simp only [cond_true] at h
      have eij : i = j := by rwa [Nat.beq_eq] at eb
      cases en : norm tb 20 e a with
      | none => rw [en] at h; cases h
      | some p =>
        cases ec : cellsV tb a with
        | none => rw [en, ec] at h; cases h
        | some us =>
          rw [en, ec] at h
          simp only at h
          cases eq : Nat.beq us.length sz && allCellA tb us with
          | false => rw [eq] at h; cases h
          | true =>
            rw [eq] at h
            simp only [cond_true] at h
            rw [Bool.and_eq_true, Nat.beq_eq] at eq
            cases er : normParts tb e sz ps (i + 1) with
            | none => rw [er] at h; cases h
            | some r =>
              rw [er] at h
              simp only [Option.some.injEq] at h; subst h
              obtain ⟨vs', k1, k2, k3, k4, k5⟩ := normParts_ok er h2
              have hr := norm_ok en (show Rel tb μ a v from h1)
              have hc := cellsV_ok ec (show Rel tb μ a v from h1)
              have hone := allCellA_ones eq.2 hc
              have hvs : v.cells.size = sz := by rw [← Array.length_toList, hc.len, eq.1]
              have hvl : v.cells.toList.length = sz := by rw [Array.length_toList, hvs]
              refine ⟨v :: vs', by rw [k1, eij]; rfl, by simp [k2], by simp [k3], fun u hu => ?_, fun d g hg => ⟨⟨v, hr, relP_kind hr, hvs, hone, fun j c hj => ?_⟩, k5 (d + sz) g fun j u hj => ?_⟩⟩
              · rcases List.mem_cons.1 hu with rfl | hu
                · exact hvs
                · exact k4 u hu
              · exact hg j c (by simp only [flatC]; rw [List.getElem?_append_left (List.getElem?_eq_some_iff.1 hj).1]; exact hj)
              · have := hg (sz + j) u (by simp only [flatC]; rw [List.getElem?_append_right (by omega), hvl, Nat.add_sub_cancel_left]; exact hj)
                rwa [← Nat.add_assoc] at this
theorem buildSlice_ok (ok : TabOk P tb) (hΦ : ∀ q, Φ q → q.2.2.1 ≤ cE) {ty : TypeId} {n : Nat} {ps : List (Nat × AV)} {parts : Array (Nat × Value)} {k : AV → E} {N : Value → World → Prop} (s : St tb B Φ cE (buildSliceE tb ty n ps k) b μ t c F w) (hp : PartsR tb μ ps parts.toList) (hN : Then tb B Φ cE b k μ c N) :
    Runs P (Instr.buildSlice ty n parts) w N := by
  unfold buildSliceE at s
  obtain ⟨pe, hel, s⟩ := St.opt s
  obtain ⟨el, sz⟩ := pe
  obtain ⟨hun, hu, hsz, hpos⟩ := elemA_ok ok hel
  simp only at hun hu hsz hpos
  obtain ⟨hb, s⟩ := St.when s
  simp only [Bool.and_eq_true, Nat.beq_eq, Nat.ble_eq] at hb
  obtain ⟨z, hz, s⟩ := St.opt s
  obtain ⟨i, zv, hi, hzv, hzr⟩ := zeroA_ok ok hz
  obtain ⟨zs, hzs, s⟩ := St.opt s
  obtain ⟨hb2, s⟩ := St.when s
  rw [Nat.beq_eq] at hb2
  simp only at hb2
  obtain ⟨es, hes, s⟩ := St.opt s
  have hzsz : zv.cells.size = sz := by rw [← hb2, ← (cellsV_ok hzs (hzr μ)).len, Array.length_toList]
  obtain ⟨vs, k1, k2, k3, k4, k5⟩ := normParts_ok hes hp
  have hn : es.length = n := by rw [← k3, hb.2]
  have hxs : ((List.range (n * sz)).map fun i => zv.cells[i % sz]!).toArray.size = n * sz := by simp
  obtain ⟨ys, y1, y2, y3, y4⟩ := fill_seq vs 0 ((List.range (n * sz)).map fun i => zv.cells[i % sz]!).toArray k4 (by rw [hxs, Nat.zero_add, k2, hn]; exact Nat.le_refl _)
  rw [hxs] at y2
  have harr : ArrAt tb μ.fz el sz (fun o => ys[o]?) es 0 := k5 0 _ fun j v hj => by
    have hlt := (List.getElem?_eq_some_iff.1 hj).1
    rw [Nat.zero_add, y4, Nat.zero_mul, Nat.zero_add, if_pos ⟨Nat.zero_le _, by rw [← y3]; exact hlt⟩]
    exact hj
  obtain ⟨hlt, hnone, s'⟩ := St.new hΦ s
  obtain ⟨μ1, x1, r1, I1⟩ := s.inv.newSlice (.inl ⟨hnone, rfl⟩) hel harr (cap := es.length) (Nat.le_refl _) (by rw [y2, hn]; exact Nat.le_refl _) el
  have hsz' : (Go.sizeOf el).run P w = .ok sz w := run_sz ok hsz w
  rw [hn] at r1
  refine .of (u := .slice (some ⟨w.heap.size, 0, none⟩) n n) (w1 := w.alloc (.cells ys el)) ?_ (hN _ _ _ _ _ _ _ (s' _ _ I1) ⟨by omega, x1⟩ r1)
  have hle : ¬ (n * sz > 2 ^ 24) := by have : (2 : Nat) ^ 24 = 16777216 := rfl; omega
  have hfill : Instr.fill (fun i => some (i * sz, sz)) ((Array.range (n * sz)).map fun i => (if n * sz = 0 then (#[] : Array Value) else zv.cells)[i % (if n * sz = 0 then (#[] : Array Value) else zv.cells).size]!) parts.toList = some ys := by
    rw [← y1, ← k1]
    by_cases e0 : n * sz = 0
    · simp [e0, show Array.range 0 = #[] from rfl]
    · simp only [if_neg e0]
      congr 1
      apply Array.ext'
      simp [hzsz]
  by_cases e0 : n * sz = 0
  · simp only [if_pos e0] at hfill
    simp only [Instr.buildSlice, Sem.run_bind, run_underlying hu, Result.andThen_ok, hsz', if_neg hle, e0, if_true, Sem.run_pure, Sem.run_ite]
    rw [e0] at hfill
    simp only [hfill, Sem.run_bind, newRow, run_newObj, Result.andThen_ok, Sem.run_pure]
    rfl
  · simp only [if_neg e0] at hfill
    simp only [Instr.buildSlice, Sem.run_bind, run_underlying hu, Result.andThen_ok, hsz', if_neg hle, if_neg e0, Sem.run_pure, Sem.run_ite, run_zero hi hzv, hfill, newRow, run_newObj]
    rfl
theorem arrAt_rep {fz : Fz} {e sz : Nat} {p : PV} {z : Value} (hz : z.cells.size = sz) (hr : RelP tb fz e p z) (h1 : ∀ d ∈ z.cells.toList, d.oneCell' = true) (hpos : 0 < sz) {g : Nat → Option Value} : ∀ (n d : Nat), (∀ j, j < n * sz → g (d + j) = z.cells[j % sz]?) → ArrAt tb fz e sz g (List.replicate n p) d
  | 0, d, _ => trivial
  | n + 1, d, hg => by
    refine ⟨⟨z, hr, relP_kind hr, hz, h1, fun j c hj => ?_⟩, arrAt_rep hz hr h1 hpos n (d + sz) fun j hj => ?_⟩
    · have hlt := (List.getElem?_eq_some_iff.1 hj).1
      rw [Array.length_toList, hz] at hlt
      rw [hg j (by rw [Nat.succ_mul]; omega), Nat.mod_eq_of_lt hlt]
      rwa [Array.getElem?_toList] at hj
    · rw [Nat.add_assoc, hg (sz + j) (by rw [Nat.succ_mul]; omega), Nat.add_mod_left]
theorem makeSlice_ok (ok : TabOk P tb) (hΦ : ∀ q, Φ q → q.2.2.1 ≤ cE) {ty : TypeId} {same zero : Bool} {x y : AV} {u v : Value} {k : AV → E} {N : Value → World → Prop} (s : St tb B Φ cE (makeSliceE tb ty same zero x y k) b μ t c F w) (hx : Rel tb μ x u) (hy : Rel tb μ y v) (hsame : same = true → u = v ∧ x = y) (hN : Then tb B Φ cE b k μ c N) :
    Runs P (Instr.makeSlice ty u v) w N := by
  cases x with
  | int k1 l =>
    cases y with
    | int k2 c0 =>
      cases hx; cases hy
      simp only [makeSliceE] at s
      obtain ⟨pe, hel, s⟩ := St.opt s
      obtain ⟨el, sz⟩ := pe
      obtain ⟨hun, hu, hsz, hpos⟩ := elemA_ok ok hel
      simp only at hun hu hsz hpos
      obtain ⟨z, hz, s⟩ := St.opt s
      obtain ⟨i, zv, hi, hzv, hzr⟩ := zeroA_ok ok hz
      obtain ⟨zp, hzp, s⟩ := St.opt s
      obtain ⟨zs, hzs, s⟩ := St.opt s
      obtain ⟨hb, s⟩ := St.when s
      simp only [Bool.and_eq_true, Nat.beq_eq] at hb
      obtain ⟨h5, h6, h7⟩ := hb
      have hc := cellsV_ok hzs (hzr μ)
      have hzsz : zv.cells.size = sz := by rw [← h6, ← hc.len, Array.length_toList]
      have hone := allCellA_ones h7 hc
      have hisz : i.size = sz := by obtain ⟨i', hi', e'⟩ := szA_ok ok hsz; rw [hi] at hi'; cases hi'; exact e'
      have hby : i.bytes ≤ 100000 := by
        unfold narrow at h5
        cases e2 : tb.ty.look el with
        | none => rw [e2] at h5; cases h5
        | some j => rw [e2] at h5; have := ok.ty el j e2; rw [hi] at this; cases this; simpa using h5
      have fit : ∀ c1 : Int, 0 ≤ c1 → c1 ≤ 100000 → (i.bytes : Int) * c1 ≤ 281474976710656 := fun c1 h0 h2 => by
        have : (i.bytes : Int) * c1 ≤ 100000 * 100000 := Int.mul_le_mul (by omega) h2 (by omega) (by omega)
        omega
      have cell : ∀ n j, j < n * sz → (madeCells zv.cells (n * i.size))[j]? = zv.cells[j % sz]? := fun n j hj => by
        have hm : j % sz < zv.cells.size := by rw [hzsz]; exact Nat.mod_lt _ hpos
        rw [hisz]
        unfold madeCells
        rw [Array.getElem?_map, Array.getElem?_range, if_pos hj]
        show some (zv.cells[j % zv.cells.size]!) = _
        rw [hzsz, Array.getElem?_eq_getElem hm, getElem!_pos zv.cells (j % sz) hm]
      cases same with
      | true =>
        obtain ⟨_, exy⟩ := hsame rfl
        cases exy
        obtain ⟨hq, s⟩ := St.ck (n := 136) s
        obtain ⟨_, q2, q3⟩ : (0 : Int) ≤ 0 ∧ (0 : Int) ≤ l ∧ l ≤ 100000 := by simpa [cutOk] using hq
        have harr : ArrAt tb μ.fz el sz (fun o => (madeCells zv.cells (l.toNat * i.size))[o]?) (repP l zp) 0 := arrAt_rep hzsz (norm_ok hzp (hzr μ)) hone hpos _ _ fun j hj => by rw [Nat.zero_add]; exact cell _ j hj
        have hlen : (repP l zp).length = l.toNat := by unfold repP; simp
        obtain ⟨μ1, l1, r1, s1⟩ := St.newArr hΦ s hel harr (by rw [size_madeCells, hisz, hlen]) el
        rw [hlen] at r1
        exact .of (run_make w ty el i zv hu hi hzv k1 k1 l l q2 (by omega) (fit l q2 q3) (by omega)) (hN _ _ _ _ _ _ _ s1 l1 r1)
      | false =>
        simp only [cond_false] at s
        cases zero with
        | false => exact (St.fail (n := 137) s).elim
        | true =>
          simp only [cond_true] at s
          obtain ⟨hq, s⟩ := St.ck (n := 136) s
          obtain ⟨q1, q2, q3⟩ : l = 0 ∧ (0 : Int) ≤ c0 ∧ c0 ≤ 100000 := by
            have := hq
            simp only [andB, eqI, cutOk, Bool.and_eq_true, decide_eq_true_eq, beq_iff_eq] at this
            exact ⟨this.1, this.2.2.1, this.2.2.2⟩
          obtain ⟨hlt, hnone, s'⟩ := St.new hΦ s
          have Iv := s.inv
          subst q1
          obtain ⟨μ1, x1, r1, I1⟩ := Iv.newSlice (.inl ⟨hnone, rfl⟩) hel (es := []) (xs := madeCells zv.cells (c0.toNat * i.size)) trivial (cap := c0.toNat) (Nat.zero_le _) (by rw [size_madeCells, hisz]; exact Nat.le_refl _) el
          exact .of (run_make w ty el i zv hu hi hzv k1 k2 0 c0 (by omega) q2 (fit c0 q2 q3) (by omega)) (hN _ _ _ _ _ _ _ (s' _ _ I1) ⟨by omega, x1⟩ r1)
    | _ => exact (St.fail (n := 138) s).elim
  | _ => cases y <;> exact (St.fail (n := 138) s).elim
end
end Px
end
