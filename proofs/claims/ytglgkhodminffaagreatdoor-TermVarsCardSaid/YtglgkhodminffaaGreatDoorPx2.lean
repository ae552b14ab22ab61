/- A plain run of a function's loaded form over data that are not known, and that what it answers the program answers: part 2. -/
import Derived.Test.YtglgkhodminffaaGreatDoorPx1
import Derived.LoopN
import Derived.Scope
section
namespace Px
open Go Go.RowKit
set_option linter.unusedVariables false
set_option linter.unusedSimpArgs false
structure ActRel (tb : Tab) (μ : Mu) (a : AAct) (ca : Act) : Prop where
  size : ca.tmps.size = a.sz
  tmps : ∀ t, Rel tb μ (a.at t) (ca.tmps.getD t undef)
  defers : ca.defers = []
theorem ActRel.mono {tb : Tab} {μ μ' : Mu} (hμ : Ext μ μ') {a : AAct} {ca : Act} (h : ActRel tb μ a ca) : ActRel tb μ' a ca := ⟨h.size, fun t => Rel.mono hμ _ _ (h.tmps t), h.defers⟩
theorem at_eq (a : AAct) (t : Nat) : a.at t = (a.tm.look t).getD undA := by unfold AAct.at; cases a.tm.look t <;> rfl
theorem ActRel.put {tb : Tab} {μ : Mu} {a : AAct} {ca : Act} (h : ActRel tb μ a ca) {d : Option Tmp} (hd : dstOk a.sz d = true) {v : AV} {u : Value} (hv : Rel tb μ v u) : ActRel tb μ (a.put d v) (ca.put d u) := by
  cases d with
  | none => exact h
  | some d =>
    have hd : d < a.sz := by simp only [dstOk, Nat.blt_eq] at hd; exact hd
    refine ⟨by show (ca.tmps.setIfInBounds d u).size = a.sz; rw [Array.size_setIfInBounds]; exact h.size, fun t => ?_, h.defers⟩
    have ht := h.tmps t
    rw [at_eq] at ht ⊢
    show Rel tb μ (((a.tm.put v d).look t).getD undA) ((ca.tmps.setIfInBounds d u).getD t undef)
    rw [T.look_put]
    by_cases e : t = d
    · subst e
      rw [if_pos rfl]
      have : t < ca.tmps.size := by rw [h.size]; exact hd
      simpa [Array.getD, this] using hv
    · rw [if_neg e]
      have e' : ¬ d = t := fun x => e x.symm
      have e2 : (ca.tmps.setIfInBounds d u).getD t undef = ca.tmps.getD t undef := by
        simp only [Array.getD_eq_getD_getElem?, Array.getElem?_setIfInBounds_ne e']
      rw [e2]; exact ht
section
variable {P : Program} {tb : Tab} {B : Bs} {Φ : Res → Prop} {cE : Nat} {b : Nat} {μ : Mu} {h : Hp} {t : T AObj} {c : Nat} {F : Foot} {w w' : World} {a : AAct} {ca : Act}
theorem evA_ok (ra : ActRel tb μ a ca) {x : Operand} {v : AV} (h : evA a x = some v) : Rel tb μ v (ca.eval x) := by
  cases x with
  | tmp t => simp only [evA, Option.some.injEq] at h; subst h; exact ra.tmps t
  | const u => exact absV_rel u v h
  | global g => simp only [evA, Option.some.injEq] at h; subst h; rfl
  | func f => simp only [evA, Option.some.injEq] at h; subst h; exact ⟨#[], #[], rfl, rfl, rfl⟩
theorem evL_ok (ra : ActRel tb μ a ca) : ∀ {xs : List Operand} {l : List AV}, evL a xs = some l → RelL tb μ l (xs.map ca.eval)
  | [], l, h => by simp only [evL, Option.some.injEq] at h; subst h; rfl
  | x :: xs, l, h => by
    simp only [evL] at h
    cases e : evA a x with
    | none => rw [e] at h; cases h
    | some v =>
      rw [e] at h
      cases e2 : evL a xs with
      | none => rw [e2] at h; cases h
      | some m => rw [e2] at h; simp only [Option.some.injEq] at h; subst h; exact .cons (evA_ok ra e) (evL_ok ra e2)
theorem evO_ok (ra : ActRel tb μ a ca) {x : Option Operand} {v : Option AV} (h : evO a x = some v) : (x = none ∧ v = none) ∨ ∃ y u, x = some y ∧ v = some u ∧ Rel tb μ u (ca.eval y) := by
  cases x with
  | none => simp only [evO, Option.some.injEq] at h; exact .inl ⟨rfl, h.symm⟩
  | some y =>
    simp only [evO] at h
    cases e : evA a y with
    | none => rw [e] at h; cases h
    | some u => rw [e] at h; simp only [Option.some.injEq] at h; exact .inr ⟨y, u, rfl, h.symm, evA_ok ra e⟩
theorem wp_val {o : Oper} {next : Act → World → Prop} {Q : Exit → Act → World → Prop} {v : Value} {w1 : World} (h : (execOp ca.eval o).run P w = .ok (.value v) w1) (hn : next (ca.put o.dst v) w1) : o.wp P ca w next Q := by
  unfold Oper.wp; rw [h]; exact hn
theorem wp_skp {o : Oper} {next : Act → World → Prop} {Q : Exit → Act → World → Prop} {w1 : World} (h : (execOp ca.eval o).run P w = .ok .skip w1) (hn : next (ca.put o.dst undef) w1) : o.wp P ca w next Q := by
  unfold Oper.wp; rw [h]; exact hn
theorem wp_runs {o : Oper} {next : Act → World → Prop} {Q : Exit → Act → World → Prop} {S : Sem Value} (he : execOp ca.eval o = (do pure (.value (← S)))) (h : Runs P S w fun u w1 => next (ca.put o.dst u) w1) : o.wp P ca w next Q := by
  obtain ⟨u, w1, h1, h2⟩ := h
  exact wp_val (by rw [he]; simp [h1]) h2
theorem wp_runsU {o : Oper} {next : Act → World → Prop} {Q : Exit → Act → World → Prop} {S : Sem Unit} (he : execOp ca.eval o = (do S; pure .skip)) (h : RunsU P S w fun u w1 => next (ca.put o.dst u) w1) : o.wp P ca w next Q := by
  obtain ⟨w1, h1, h2⟩ := h
  exact wp_skp (by rw [he]; simp [h1]) h2
theorem evParts_ok (ra : ActRel tb μ a ca) : ∀ {ps : List (Nat × Operand)} {l : List (Nat × AV)}, evParts a ps = some l → PartsR tb μ l (ps.map fun (i, x) => (i, ca.eval x))
  | [], l, h => by simp only [evParts, Option.some.injEq] at h; subst h; rfl
  | p :: ps, l, h => by
    simp only [evParts] at h
    cases e : evA a p.2 with
    | none => rw [e] at h; cases h
    | some v =>
      rw [e] at h
      cases e2 : evParts a ps with
      | none => rw [e2] at h; cases h
      | some m => rw [e2] at h; simp only [Option.some.injEq] at h; subst h; exact ⟨_, _, rfl, evA_ok ra e, evParts_ok ra e2⟩
/-- A function is called: it is carried out at once, or entered. -/
def Enters (P : Program) (f : FuncId) (us : List Value) (w : World) (N : Value → World → Prop) : Prop :=
  (∃ v w1, (callFunc f us.toArray).run P w = .ok (.value v) w1 ∧ N v w1) ∨ ((callFunc f us.toArray).run P w = .ok (.enter f us.toArray) w ∧ Calls P f us.toArray w fun e w' => ∃ v, e = .returned v ∧ N v w')
/-- Callees are told rightly. -/
def CallOk (P : Program) (tb : Tab) (B : Bs) (Φ : Res → Prop) (cE : Nat) (call : FuncId → List AV → (AV → E) → E) : Prop :=
  ∀ (f : FuncId) (args : List AV) (us : List Value) (k : AV → E) (b : Nat) (μ : Mu) (t : T AObj) (c : Nat) (F : Foot) (w : World) (N : Value → World → Prop), St tb B Φ cE (call f args k) b μ t c F w → RelL tb μ args us → Then tb B Φ cE b k μ c N → Enters P f us w N
theorem upon_enters {o : Oper} {next : Act → World → Prop} {Q : Exit → Act → World → Prop} {f : FuncId} {us : List Value} (he : (execOp ca.eval o).run P w = (callFunc f us.toArray).run P w) (h : Enters P f us w fun u w1 => next (ca.put o.dst u) w1) : o.wp P ca w next Q := by
  unfold Oper.wp
  rw [he]
  rcases h with ⟨v, w1, h1, h2⟩ | ⟨h1, h2⟩
  · rw [h1]; exact h2
  · rw [h1]
    exact h2.mono fun e w' ⟨v, hv, hn⟩ => by subst hv; exact hn
theorem methA_ok (ok : TabOk P tb) {ty : TypeId} {name : String} {f : FuncId} (h : methA tb ty name = some f) (v : Value) (n : Nat) (w : World) : (method (n + 1) ty v name).run P w = .ok (f, v) w := by
  unfold methA at h
  cases e1 : tb.ty.look ty with
  | none => rw [e1] at h; simp at h
  | some i =>
    cases e2 : und tb ty with
    | none => rw [e1, e2] at h; simp at h
    | some d =>
      rw [e1, e2] at h
      simp only at h
      have hu := und_ok ok e2
      cases e3 : i.methods.find? (fun m => m.name == name) with
      | none => rw [e3] at h; cases h
      | some m =>
        rw [e3] at h
        simp only at h
        have hi := ok.ty ty i e1
        obtain ⟨nm, sig, path, fn⟩ := m
        simp only at h
        cases ep : path.toList with
        | cons _ _ => rw [ep] at h; simp at h
        | nil =>
          rw [ep] at h
          have hpe : path = #[] := by apply Array.ext'; rw [ep]
          subst hpe
          cases fn with
          | none => simp at h
          | some fp =>
            obtain ⟨g, pr⟩ := fp
            cases pr with
            | true =>
              cases d <;> simp at h
              subst h
              simp [method, typeInfo, hi, e3, follow, receiverAt, run_underlying hu, Place.get]
            | false =>
              cases d <;> simp at h <;> subst h <;> simp [method, typeInfo, hi, e3, follow, receiverAt, run_underlying hu, Place.get]
theorem frzP_ok : ∀ {l : List (Nat × AV)} {k : List (Nat × AV) → E} {us : List (Nat × Value)} {μ : Mu} {t : T AObj} {F : Foot}, St tb B Φ cE (frzP l k) b μ t c F w → PartsR tb μ l us → ∃ μ1 t1 F1 l1, Later μ c μ1 c ∧ PartsR tb μ1 l1 us ∧ St tb B Φ cE (k l1) b μ1 t1 c F1 w
  | [], k, us, μ, t, F, s, hr => ⟨μ, t, F, [], Later.refl _ _, hr, s⟩
  | (i, a) :: l, k, us, μ, t, F, s, hr => by
    obtain ⟨v, vs, rfl, h1, h2⟩ := hr
    obtain ⟨μ1, t1, F1, v1, l1, r1, s1⟩ := frzE_ok s h1
    have mono : ∀ {l : List (Nat × AV)} {us : List (Nat × Value)}, PartsR tb μ l us → PartsR tb μ1 l us := by
      intro l
      induction l with
      | nil => intro us h; exact h
      | cons p l ih => intro us ⟨v, vs, e, h1, h2⟩; exact ⟨v, vs, e, h1.mono l1.ext, ih h2⟩
    obtain ⟨μ2, t2, F2, l2, e2, r2, s2⟩ := frzP_ok s1 (mono h2)
    exact ⟨μ2, t2, F2, (i, v1) :: l2, l1.trans e2, ⟨_, _, rfl, r1.mono e2.ext, r2⟩, s2⟩
theorem dropR_ok {v : AV} {u : Value} (h : Rel tb μ v u) : Rel tb μ (dropR v) u := by
  cases v <;> first | exact h | skip
  exact h.1
theorem dropR_L : ∀ {l : List AV} {us : List Value}, RelL tb μ l us → RelL tb μ (l.map dropR) us
  | [], _, h => h
  | a :: l, _, ⟨v, vs, e, h1, h2⟩ => ⟨v, vs, e, dropR_ok h1, dropR_L h2⟩
theorem builtin_ok (ok : TabOk P tb) (hΦ : ∀ q, Φ q → q.2.2.1 ≤ cE) {bi : Builtin} {ts : Array TypeId} {rt : TypeId} {cs : Array Bool} {args : List AV} {us : List Value} {k : AV → E} {N : Value → World → Prop} (s : St tb B Φ cE (builtinE tb bi ts.toList args k) b μ t c F w) (hu : RelL tb μ args us) (hN : Then tb B Φ cE b k μ c N) :
    ∃ S : Sem Value, (∀ w, (builtin bi ts rt cs us.toArray).run P w = (do pure (Next.value (← S)) : Sem Next).run P w) ∧ Runs P S w N := by
  unfold builtinE at s
  split at s
  · -- len
    rename_i t0 tl x hts
    obtain ⟨u, us', rfl, hr, hnil⟩ := hu
    rw [show us' = [] from hnil]
    have ht : ts[0]? = some t0 := by rw [← Array.getElem?_toList, hts]; rfl
    exact ⟨Builtin.len_ ts rt #[u], fun _ => rfl, len_ok ok ht s hr hN⟩
  · -- append
    rename_i t0 t1 s0 x hts
    obtain ⟨u0, us1, rfl, h1, u1, us2, rfl, h2, hnil⟩ := hu
    rw [show us2 = [] from hnil]
    have hts' : ts = #[t0, t1] := by apply Array.ext'; rw [hts]
    subst hts'
    refine ⟨Builtin.append_ #[t0, t1] rt #[u0, u1], fun _ => rfl, ?_⟩
    obtain ⟨μ1, t1', F1, x1, l1, r1, s1⟩ := frzE_ok s h2
    exact append_ok ok hΦ s1 (h1.mono l1.ext) r1 (hN.later l1)
  · -- min
    rename_i x l
    obtain ⟨u0, us1, rfl, h1, h2⟩ := hu
    obtain ⟨r, hr, s⟩ := St.opt s
    obtain ⟨q, q1, q2⟩ := minA_ok (P := P) (w := w) l us1 x r u0 hr h2 h1
    exact ⟨Builtin.min_ ts rt (u0 :: us1).toArray, fun _ => rfl, .of (by simpa [Builtin.min_] using q1) (hN.now s q2)⟩
  · -- max
    rename_i x l
    obtain ⟨u0, us1, rfl, h1, h2⟩ := hu
    obtain ⟨r, hr, s⟩ := St.opt s
    obtain ⟨q, q1, q2⟩ := minA_ok (P := P) (w := w) l us1 x r u0 hr h2 h1
    exact ⟨Builtin.max_ ts rt (u0 :: us1).toArray, fun _ => rfl, .of (by simpa [Builtin.max_] using q1) (hN.now s q2)⟩
  · exact (St.fail (n := 252) s).elim
end
end Px
end

section
namespace Px
open Go Go.RowKit
set_option linter.unusedVariables false
set_option linter.unusedSimpArgs false
section
variable {P : Program} {tb : Tab} {gw : Nat → Bool} {B : Bs} {Φ : Res → Prop} {cE : Nat} {b : Nat} {μ : Mu} {h : Hp} {t : T AObj} {c : Nat} {F : Foot} {w w' : World} {a : AAct} {ca : Act}
theorem sameOp_ok {x y : Operand} {u v : AV} (h : sameOp x y = true) (hx : evA a x = some u) (hy : evA a y = some v) : ca.eval x = ca.eval y ∧ u = v := by
  have e : x = y := by
    cases x <;> cases y <;> simp only [sameOp] at h <;> first | (cases h; done) | skip
    · rw [Nat.beq_eq] at h; rw [h]
    · rename_i p q
      cases p <;> cases q <;> first | (cases h; done) | skip
      simp only [Bool.and_eq_true, decide_eq_true_eq] at h
      obtain ⟨rfl, rfl⟩ := h; rfl
  subst e
  rw [hx] at hy
  exact ⟨rfl, Option.some.inj hy⟩
theorem appl_rel {l args m : List AV} {f' c' us : List Value} (h1 : RelL tb μ l f') (h2 : RelL tb μ args us) (h3 : RelL tb μ m c') : RelL tb μ (appl l args m) (f' ++ (us ++ c')) := h1.append (h2.append h3)
theorem evL_arr (ra : ActRel tb μ a ca) {xs : Array Operand} {l : List AV} (h : evL a xs.toList = some l) : RelL tb μ l (xs.map ca.eval).toList := by rw [Array.toList_map]; exact evL_ok ra h
set_option maxHeartbeats 1000000 in
theorem op_ok (ok : TabOk P tb) (hΦ : ∀ q, Φ q → q.2.2.1 ≤ cE) {call : FuncId → List AV → (AV → E) → E} (hcall : CallOk P tb B Φ cE call) {o : Oper} {k : AV → E} {next : Act → World → Prop} {Q : Exit → Act → World → Prop}
    (s : St tb B Φ cE (opE tb gw call a o k) b μ t c F w) (ra : ActRel tb μ a ca) (hN : Then tb B Φ cE b k μ c fun u w1 => next (ca.put o.dst u) w1) : o.wp P ca w next Q := by
  obtain ⟨dst, op, type, pos, after, guard⟩ := o
  cases op with
  | move x =>
    simp only [opE] at s
    obtain ⟨v, hv, s⟩ := St.opt s
    exact wp_val (by simp [execOp]) (hN.now s (evA_ok ra hv))
  | assign x =>
    simp only [opE] at s
    obtain ⟨v, hv, s⟩ := St.opt s
    obtain ⟨μ1, t1, c1, v1, l1, r1, _, s1⟩ := phanG_ok hΦ s (evA_ok ra hv)
    exact wp_val (by simp [execOp]) ((hN.later l1).now s1 r1)
  | pick q x y =>
    simp only [opE] at s
    obtain ⟨u1, hu1, s⟩ := St.opt s
    obtain ⟨u2, hu2, s⟩ := St.opt s
    cases hq : evA a q with
    | none => rw [hq] at s; exact (St.fail (n := 303) s).elim
    | some v =>
      rw [hq] at s
      cases v <;> first | (exact (St.fail (n := 303) s).elim) | skip
      have hr := evA_ok ra hq
      rename_i bq
      have hr : ca.eval q = .bool bq := hr
      have s := St.ite s
      cases bq with
      | true => exact wp_val (by simp [execOp, hr, asBool]) (hN.now s (evA_ok ra hu1))
      | false => exact wp_val (by simp [execOp, hr, asBool]) (hN.now s (evA_ok ra hu2))
  | alloc e =>
    simp only [opE] at s
    refine wp_runs (S := Instr.alloc e true (.tuple #[])) (by rfl) ?_
    exact allocOp_ok ok hΦ s hN
  | box e x =>
    simp only [opE] at s
    obtain ⟨v, hv, s⟩ := St.opt s
    refine wp_runs (S := Instr.box e (ca.eval x)) (by rfl) ?_
    exact boxOp_ok hΦ (evA_ok ra hv) s hN
  | build ty ps =>
    simp only [opE] at s
    obtain ⟨l, hl, s⟩ := St.opt s
    have hp : PartsR tb μ l (ps.map fun (i, x) => (i, ca.eval x)).toList := by rw [Array.toList_map]; exact evParts_ok ra hl
    obtain ⟨μ1, t1, F1, l1, x1, hp1, s⟩ := frzP_ok s hp
    obtain ⟨v, hv, s⟩ := St.opt s
    obtain ⟨r, h1, h2⟩ := buildA_ok ok hv (parts := ps.map fun (i, x) => (i, ca.eval x)) hp1 w
    refine wp_runs (S := Instr.build ty (ps.map fun (i, x) => (i, ca.eval x))) (by rfl) ?_
    exact .of h1 ((hN.later x1).now s h2)
  | buildSlice ty n ps =>
    simp only [opE] at s
    obtain ⟨l, hl, s⟩ := St.opt s
    refine wp_runs (S := Instr.buildSlice ty n (ps.map fun (i, x) => (i, ca.eval x))) (by rfl) ?_
    have hp : PartsR tb μ l (ps.map fun (i, x) => (i, ca.eval x)).toList := by rw [Array.toList_map]; exact evParts_ok ra hl
    obtain ⟨μ1, t1, F1, l1, x1, hp1, s⟩ := frzP_ok s hp
    exact buildSlice_ok ok hΦ s hp1 (hN.later x1)
  | load ty x =>
    simp only [opE] at s
    obtain ⟨v, hv, s⟩ := St.opt s
    refine wp_runs (S := Instr.loadAt ty (ca.eval x)) (by rfl) ?_
    exact load_ok ok s (evA_ok ra hv) hN
  | store ty x y =>
    simp only [opE] at s
    obtain ⟨v, hv, s⟩ := St.opt s
    obtain ⟨u, hu, s⟩ := St.opt s
    refine wp_runsU (S := Instr.storeAt ty (ca.eval x) (ca.eval y)) (by rfl) ?_
    obtain ⟨μ1, t1, F1, u1, l1, r1, s⟩ := frzE_ok s (evA_ok ra hu)
    exact store_ok ok hΦ s ((evA_ok ra hv).mono l1.ext) r1 (hN.later l1)
  | nilCheck x =>
    simp only [opE] at s
    cases hq : evA a x with
    | none => rw [hq] at s; exact (St.fail (n := 313) s).elim
    | some v =>
      rw [hq] at s
      have hr := evA_ok ra hq
      cases v <;> first | (exact (St.fail (n := 313) s).elim) | skip
      · rename_i q
        cases q with
        | none => exact (St.fail (n := 313) s).elim
        | some q =>
          obtain ⟨p, hp, e⟩ := id hr
          exact wp_val (v := ca.eval x) (by simp [execOp, e]) (hN.now s hr)
      · obtain ⟨b1, o1, u1, e, _⟩ := id hr
        exact wp_val (v := ca.eval x) (by simp [execOp, e]) (hN.now s hr)
      · rename_i fn f m
        cases fn <;> first | (exact (St.fail (n := 313) s).elim) | skip
        obtain ⟨f', c', e, _⟩ := id hr
        exact wp_val (v := ca.eval x) (by simp [execOp, e]) (hN.now s hr)
      · obtain ⟨v', e, _⟩ := id hr
        exact wp_val (v := ca.eval x) (by simp [execOp, e]) (hN.now s hr)
  | binOp op ty x y yt =>
    simp only [opE] at s
    obtain ⟨v, hv, s⟩ := St.opt s
    obtain ⟨u, hu, s⟩ := St.opt s
    obtain ⟨r', v', h1, h2, s⟩ := binE_ok ok (xo := x) (yo := y) s (evA_ok ra hv) (evA_ok ra hu)
    refine wp_runs (S := (do eqGuard op ty x y (ca.eval x) (ca.eval y); Go.binOp op ty (ca.eval x) (ca.eval y))) (by rfl) ?_
    exact .of h1 (hN.now s h2)
  | unOp op ty x =>
    simp only [opE] at s
    obtain ⟨v, hv, s⟩ := St.opt s
    obtain ⟨r, hr, s⟩ := St.opt s
    obtain ⟨r', h1, h2⟩ := unA_ok hr (evA_ok ra hv) w
    refine wp_runs (S := Op.unary op (ca.eval x)) (by rfl) ?_
    exact .of h1 (hN.now s h2)
  | convert sr ds x =>
    simp only [opE] at s
    obtain ⟨v, hv, s⟩ := St.opt s
    refine wp_runs (S := Go.convert sr ds (ca.eval x)) (by rfl) ?_
    obtain ⟨μ1, t1, F1, u1, l1, r1, s⟩ := frzE_ok s (evA_ok ra hv)
    exact conv_ok ok s r1 (hN.later l1)
  | makeInterface ty x =>
    simp only [opE] at s
    obtain ⟨v, hv, s⟩ := St.opt s
    obtain ⟨μ1, t1, F1, u1, l1, r1, s⟩ := frzE_ok s (evA_ok ra hv)
    cases e : und tb ty with
    | none => rw [e] at s; exact (St.fail (n := 321) s).elim
    | some d =>
      rw [e] at s
      have hu := und_ok ok e
      refine wp_runs (S := Instr.makeInterface ty (ca.eval x)) rfl (.of (u := .iface ty (ca.eval x)) (w1 := w) ?_ ?_)
      · cases d <;> first | (simp [Instr.makeInterface, run_underlying hu]; done) | (exact (St.fail (n := 320) s).elim)
      · exact (hN.later l1).now (v := .iface ty (dropR u1)) (by cases d <;> first | exact s | (exact (St.fail (n := 320) s).elim)) ⟨_, rfl, dropR_ok r1⟩
  | makeFunc fn f cp =>
    simp only [opE] at s
    cases fn <;> first | (exact (St.fail (n := 324) s).elim) | skip
    obtain ⟨l, hl, s⟩ := St.opt s
    obtain ⟨μ1, t1, F1, l1, x1, r1, s⟩ := frzL_ok s (evL_arr ra hl)
    obtain ⟨m, hm, s⟩ := St.opt s
    obtain ⟨μ2, t2, F2, m1, x2, r2, s⟩ := frzL_ok s (RelL.mono x1.ext _ _ (evL_arr ra hm))
    refine wp_runs (S := Instr.makeFunc _ (f.map ca.eval) (cp.map ca.eval)) (by rfl) ?_
    exact .of rfl ((hN.later (x1.trans x2)).now s ⟨_, _, rfl, dropR_L (RelL.mono x2.ext _ _ r1), dropR_L r2⟩)
  | makeSlice ty l cp =>
    simp only [opE] at s
    obtain ⟨v, hv, s⟩ := St.opt s
    obtain ⟨u, hu, s⟩ := St.opt s
    refine wp_runs (S := Instr.makeSlice ty (ca.eval l) (ca.eval cp)) (by rfl) ?_
    exact makeSlice_ok ok hΦ s (evA_ok ra hv) (evA_ok ra hu) (fun hs => sameOp_ok hs hv hu) hN
  | slice ty x lo hi mx =>
    simp only [opE] at s
    have orr : ∀ {x : Option Operand} {v : Option AV}, evO a x = some v → OR tb μ v (x.map ca.eval) := fun hv => by
      rcases evO_ok ra hv with ⟨rfl, rfl⟩ | ⟨y, u, rfl, rfl, hr⟩
      · exact .inl ⟨rfl, rfl⟩
      · exact .inr ⟨_, _, rfl, rfl, hr⟩
    obtain ⟨v, hv, s⟩ := St.opt s
    obtain ⟨l, hl, s⟩ := St.opt s
    obtain ⟨h, hh, s⟩ := St.opt s
    obtain ⟨m, hm, s⟩ := St.opt s
    refine wp_runs (S := Instr.sliceAt ty (ca.eval x) (lo.map ca.eval) (hi.map ca.eval) (mx.map ca.eval)) (by rfl) ?_
    exact slice_ok ok hΦ s (evA_ok ra hv) (orr hl) (orr hh) (orr hm) hN
  | fieldAddr ty x i =>
    simp only [opE] at s
    obtain ⟨v, hv, s⟩ := St.opt s
    obtain ⟨r, hr, s⟩ := St.opt s
    obtain ⟨r', h1, h2⟩ := fieldAddrA_ok ok hr (evA_ok ra hv) w
    refine wp_runs (S := Instr.fieldAt ty (ca.eval x) i) (by rfl) ?_
    exact .of h1 (hN.now s h2)
  | field ty x i =>
    simp only [opE] at s
    obtain ⟨v, hv, s⟩ := St.opt s
    obtain ⟨r, hr, s⟩ := St.opt s
    obtain ⟨r', h1, h2⟩ := fieldA_ok ok hr (evA_ok ra hv) w
    refine wp_runs (S := Instr.field ty (ca.eval x) i) (by rfl) ?_
    exact .of h1 (hN.now s h2)
  | indexAddr ty x i =>
    simp only [opE] at s
    obtain ⟨v, hv, s⟩ := St.opt s
    obtain ⟨u, hu, s⟩ := St.opt s
    refine wp_runs (S := Instr.indexAt ty (ca.eval x) (ca.eval i)) (by rfl) ?_
    exact indexAddr_ok ok s (evA_ok ra hv) (evA_ok ra hu) hN
  | index ty x i =>
    simp only [opE] at s
    obtain ⟨v, hv, s⟩ := St.opt s
    obtain ⟨u, hu, s⟩ := St.opt s
    refine wp_runs (S := Instr.index ty (ca.eval x) (ca.eval i)) (by rfl) ?_
    exact index_ok ok s (evA_ok ra hv) (evA_ok ra hu) hN
  | typeAssert x xt ty co =>
    simp only [opE] at s
    obtain ⟨v, hv, s⟩ := St.opt s
    obtain ⟨r, hr, s⟩ := St.opt s
    obtain ⟨r', h1, h2⟩ := assertA_ok ok (xt := xt) hr (evA_ok ra hv) w
    refine wp_runs (S := Instr.typeAssert (ca.eval x) xt ty co) (by rfl) ?_
    exact .of h1 (hN.now s h2)
  | extract x i =>
    simp only [opE] at s
    cases hq : evA a x with
    | none => rw [hq] at s; exact (St.fail (n := 343) s).elim
    | some v =>
      rw [hq] at s
      have hr := evA_ok ra hq
      cases v <;> first | (exact (St.fail (n := 343) s).elim) | skip
      obtain ⟨v, hv, s⟩ := St.opt s
      obtain ⟨xs, e, hl⟩ := hr
      obtain ⟨u, hu, hru⟩ := hl.get _ _ hv
      have hu' : xs[i]? = some u := by simpa using hu
      refine wp_runs (S := Instr.extract (ca.eval x) i) (by rfl) ?_
      exact .of (u := u) (by simp [Instr.extract, e, hu']) (hN.now s hru)
  | call cl =>
    simp only [opE] at s
    obtain ⟨callee, args, ats⟩ := cl
    obtain ⟨l, hl, s⟩ := St.opt s
    have hargs := evL_arr ra hl
    cases callee with
    | builtin bi =>
      obtain ⟨S, h1, h2⟩ := builtin_ok (rt := type) (cs := args.map fun | .const _ => true | _ => false) ok hΦ s hargs hN
      obtain ⟨u, w1, h3, h4⟩ := h2
      refine wp_val (v := u) (w1 := w1) ?_ h4
      have h5 := h1 w
      have h6 : (args.map ca.eval).toList.toArray = args.map ca.eval := by apply Array.ext'; rfl
      have h7 : (do pure (Next.value (← S)) : Sem Next).run P w = .ok (.value u) w1 := by simp [h3]
      have h8 : (execOp ca.eval ⟨dst, .call ⟨.builtin bi, args, ats⟩, type, pos, after, guard⟩).run P w = (builtin bi ats type (args.map fun | .const _ => true | _ => false) (args.map ca.eval)).run P w := rfl
      rw [h8, ← h6]
      exact h5.trans h7
    | value f =>
      simp only at s
      cases hq : evA a f with
      | none => rw [hq] at s; exact (St.fail (n := 345) s).elim
      | some v =>
        rw [hq] at s
        have hr := evA_ok ra hq
        cases v <;> first | (exact (St.fail (n := 345) s).elim) | skip
        rename_i fn f1 m1
        cases fn <;> first | (exact (St.fail (n := 345) s).elim) | skip
        rename_i g
        obtain ⟨f', c', e, r1, r2⟩ := hr
        obtain ⟨μ1, t1, F1, l1, x1, hargs1, s⟩ := frzL_ok s hargs
        refine upon_enters (us := f'.toList ++ ((args.map ca.eval).toList ++ c'.toList)) ?_ (hcall g _ _ k b μ1 t1 c F1 w _ s (appl_rel (RelL.mono x1.ext _ _ r1) hargs1 (RelL.mono x1.ext _ _ r2)) (hN.later x1))
        simp only [execOp, resolve, e, Deferred.ofValue, Sem.run_bind, Sem.run_pure, Result.andThen_ok, invoke]
        congr 2
        apply Array.ext'
        simp
    | invoke r name =>
      simp only at s
      cases hq : evA a r with
      | none => rw [hq] at s; exact (St.fail (n := 348) s).elim
      | some v =>
        rw [hq] at s
        have hr := evA_ok ra hq
        cases v <;> first | (exact (St.fail (n := 348) s).elim) | skip
        rename_i it av
        obtain ⟨v', e, hv'⟩ := hr
        obtain ⟨μ1, t1, F1, l1, x1, hargs1, s⟩ := frzL_ok s hargs
        obtain ⟨f, hf, s⟩ := St.opt s
        refine upon_enters (us := v' :: (args.map ca.eval).toList) ?_ (hcall f _ _ k b μ1 t1 c F1 w _ s (.cons (hv'.mono x1.ext) hargs1) (hN.later x1))
        have hm := methA_ok ok hf v' (P.types.size + 99) w
        generalize hX : args.map ca.eval = X
        have h0 : (#[Value.iface it v'] ++ X).extract 1 (#[Value.iface it v'] ++ X).size = X := by
          apply Array.ext'
          rw [Array.toList_extract, List.extract_eq_take_drop]
          simp only [Array.toList_append, List.cons_append, List.nil_append, List.drop_succ_cons, List.drop_zero, Array.size_append, List.size_toArray, List.length_cons, List.length_nil]
          exact List.take_of_length_le (by rw [Array.length_toList]; omega)
        have h1 : (#[Value.iface it v'] ++ X)[0]? = some (Value.iface it v') := by rw [Array.getElem?_append_left (by simp)]; rfl
        have h2 : (execOp ca.eval ⟨dst, .call ⟨.invoke r name, args, ats⟩, type, pos, after, guard⟩).run P w = (invoke (.fn (.method name) #[]) (#[ca.eval r] ++ args.map ca.eval)).run P w := rfl
        rw [h2, hX, e]
        simp only [invoke, h0, h1, callMethod, Sem.run_bind, run_program, Result.andThen_ok]
        rw [show P.types.size + Made.depth = P.types.size + 99 + 1 from rfl, hm]
        simp only [Result.andThen_ok]
        congr 2
        apply Array.ext'
        simp
  | _ => exact (St.fail (n := 347) s).elim
end
end Px
end

section
namespace Px
open Go Go.RowKit
set_option linter.unusedVariables false
set_option linter.unusedSimpArgs false
section
variable {P : Program} {tb : Tab} {gw : Nat → Bool} {B : Bs} {Φ : Res → Prop} {cE : Nat} {b : Nat}
theorem opt_congr {α : Type} {n : Nat} {o o' : Option α} {k : α → E} (h : o = o') : opt n o k = opt n o' k := by rw [h]
/-- The slots that an operation reads. -/
def reads (o : Oper) : List Tmp := o.op.operands.toList.filterMap fun | .tmp t => some t | _ => none
theorem evA_congr {a a' : AAct} {x : Operand} (h : ∀ t, x = .tmp t → a.at t = a'.at t) : evA a x = evA a' x := by
  cases x with
  | tmp t => simp only [evA, h t rfl]
  | _ => rfl
theorem evL_congr {a a' : AAct} : ∀ {xs : List Operand}, (∀ x ∈ xs, evA a x = evA a' x) → evL a xs = evL a' xs
  | [], _ => rfl
  | x :: xs, h => by simp only [evL, h x (List.mem_cons_self ..), evL_congr fun y hy => h y (List.mem_cons_of_mem _ hy)]
theorem evParts_congr {a a' : AAct} : ∀ {xs : List (Nat × Operand)}, (∀ x ∈ xs, evA a x.2 = evA a' x.2) → evParts a xs = evParts a' xs
  | [], _ => rfl
  | x :: xs, h => by simp only [evParts, h x (List.mem_cons_self ..), evParts_congr fun y hy => h y (List.mem_cons_of_mem _ hy)]
theorem evO_congr {a a' : AAct} {x : Option Operand} (h : ∀ y, x = some y → evA a y = evA a' y) : evO a x = evO a' x := by
  cases x with
  | none => rfl
  | some y => simp only [evO, h y rfl]
theorem opE_congr {call : FuncId → List AV → (AV → E) → E} {a a' : AAct} {o : Oper} {k : AV → E} (h : ∀ t ∈ reads o, a.at t = a'.at t) : opE tb gw call a o k = opE tb gw call a' o k := by
  have hx : ∀ x ∈ o.op.operands.toList, evA a x = evA a' x := fun x hx => evA_congr fun t e => h t (by subst e; unfold reads; exact List.mem_filterMap.2 ⟨_, hx, rfl⟩)
  obtain ⟨dst, op, type, pos, after, guard⟩ := o
  cases op <;> simp only [Op.operands, Call.operands] at hx <;> simp only [opE] <;> first
    | rfl
    | (rw [hx _ (by simp)]; done)
    | (rw [hx _ (List.mem_cons_self ..), hx _ (List.mem_cons_of_mem _ (List.mem_cons_self ..))]; done)
    | skip
  case pick q x y => rw [hx q (by simp), hx x (by simp), hx y (by simp)]
  case build ty ps => rw [evParts_congr fun p hp => hx p.2 (by simp only [List.mem_map]; exact ⟨p, hp, rfl⟩)]
  case buildSlice ty n ps => rw [evParts_congr fun p hp => hx p.2 (by simp only [List.mem_map]; exact ⟨p, hp, rfl⟩)]
  case makeFunc fn f m => rw [evL_congr fun x h => hx x (by simp only [Array.toList_append, List.mem_append]; exact .inl h), evL_congr (a := a) (xs := m.toList) fun x h => hx x (by simp only [Array.toList_append, List.mem_append]; exact .inr h)]
  case slice ty x lo hi mx => rw [hx x (by simp), evO_congr (x := lo) fun y e => hx y (by subst e; simp), evO_congr (x := hi) fun y e => hx y (by subst e; simp), evO_congr (x := mx) fun y e => hx y (by subst e; simp)]
  case call cl =>
    rw [evL_congr (xs := cl.args.toList) fun x h => hx x (by simp only [Array.toList_append, List.mem_append]; exact .inr h)]
    obtain ⟨callee, args, ats⟩ := cl
    cases callee with
    | builtin bi => rfl
    | value f => simp only; rw [hx f (by simp)]
    | invoke r m => simp only; rw [hx r (by simp)]
end
end Px
end

section
namespace Px
open Go Go.RowKit
set_option linter.unusedVariables false
set_option linter.unusedSimpArgs false
/-- Is an operation carried out? none: it cannot be told. -/
noncomputable def wantA (all : List Oper) (a : AAct) (o : Oper) : Option Bool := match o.guard with
  | none => some true
  | some (j, want) => (match all[j]? with
    | some p => (match p.dst with
      | some d => (match a.at d with
        | .bool b => some (b == want)
        | .dead => none
        | .pv _ _ => none
        | _ => some false)
      | none => some false)
    | none => some false)
theorem look_div {α : Type} : ∀ (t : T α) (k : Nat) (x : α), t.look k = some x → t.put x k = t
  | .leaf, k, x, h => by rw [T.look_leaf] at h; cases h
  | .node l v r, k, x, h => by
    rw [T.look_node] at h
    rw [T.put_node]
    by_cases h0 : k = 0
    · rw [if_pos h0] at h ⊢; rw [h]
    · rw [if_neg h0] at h ⊢
      by_cases h1 : k % 2 = 1
      · rw [if_pos h1] at h ⊢; rw [look_div l _ x h]
      · rw [if_neg h1] at h ⊢; rw [look_div r _ x h]
theorem put_self {a : AAct} {d : Tmp} {b : Bool} (h : a.at d = .bool b) : a.put (some d) (.bool b) = a := by
  rw [at_eq] at h
  have : a.tm.look d = some (.bool b) := by
    cases e : a.tm.look d with
    | none => rw [e] at h; cases h
    | some v => rw [e] at h; exact congrArg some h
  show ({ a with tm := a.tm.put (.bool b) d } : AAct) = a
  rw [look_div _ _ _ this]
theorem wantE_run {Φ : Res → Prop} {all : List Oper} {a : AAct} {o : Oper} {yes no : AAct → E} {t : T AObj} {c b : Nat} {F : Foot} (h : All Φ ((wantE all a o yes no).run t c b F)) : ∃ q, wantA all a o = some q ∧ All Φ ((if q = true then yes a else no a).run t c b F) := by
  unfold wantE at h
  unfold wantA
  cases eg : o.guard with
  | none => rw [eg] at h; exact ⟨true, rfl, h⟩
  | some g =>
    obtain ⟨j, want⟩ := g
    rw [eg] at h
    simp only at h ⊢
    cases ep : all[j]? with
    | none => rw [ep] at h; exact ⟨false, rfl, h⟩
    | some p =>
      rw [ep] at h
      simp only at h ⊢
      cases ed : p.dst with
      | none => rw [ed] at h; exact ⟨false, rfl, h⟩
      | some d =>
        rw [ed] at h
        simp only at h ⊢
        cases ea : a.at d with
        | bool q =>
          rw [ea] at h
          refine ⟨q == want, rfl, ?_⟩
          simp only at h
          rw [run_ite] at h
          cases q <;> cases want <;> simpa [put_self ea] using h
        | dead => rw [ea] at h; exact (All.none (show All Φ [none] from h)).elim
        | pv _ _ => rw [ea] at h; exact (All.none (show All Φ [none] from h)).elim
        | _ => rw [ea] at h; exact ⟨false, rfl, h⟩
/-- One operation of a region in the order of the text: left out, or carried out in a part of its own. -/
def StepAt (op : AAct → Oper → (AV → E) → E) (all : List Oper) (aS : Nat → AAct) (tS : Nat → T AObj) (cS : Nat → Nat) (rc : Nat → Option (AV × Foot)) (i : Nat) (o : Oper) : Prop :=
  dstOk (aS i).sz o.dst = true ∧
    ((rc i = none ∧ wantA all (aS i) o = some false ∧ aS (i + 1) = (aS i).put o.dst undA ∧ tS (i + 1) = tS i ∧ cS (i + 1) = cS i) ∨
     (∃ v F, rc i = some (v, F) ∧ wantA all (aS i) o = some true ∧ aS (i + 1) = (aS i).put o.dst v ∧ (op (aS i) o .pure).run (tS i) (cS i) (cS i) Foot.empty = [some (v, tS (i + 1), cS (i + 1), F)]))
section
variable {Φ : Res → Prop} {b : Nat}
theorem regD_tr {op : AAct → Oper → (AV → E) → E} {all : List Oper} {k : AAct → E} : ∀ (rest : List Oper) (i : Nat) (a : AAct) (t : T AObj) (c : Nat) (F : Foot) (acc : List Step), all.drop i = rest → i ≤ all.length → All Φ ((regD op all rest i a acc k).run t c b F) → F.ok → b ≤ c →
    ∃ (aS : Nat → AAct) (tS : Nat → T AObj) (cS : Nat → Nat) (rc : Nat → Option (AV × Foot)) (accN : List Step) (F' : Foot), aS i = a ∧ tS i = t ∧ cS i = c ∧ (∀ j o, i ≤ j → all[j]? = some o → StepAt op all aS tS cS rc j o) ∧ clashFree all accN = true ∧ (∃ pre, accN = pre ++ acc) ∧
      (∀ j v F, i ≤ j → j < all.length → rc j = some (v, F) → ∃ pre post, accN = pre ++ ⟨j, cS j, cS (j + 1), F⟩ :: post ∧ (∀ p ∈ acc, p ∈ post) ∧ (∀ l v' F', i ≤ l → l < j → rc l = some (v', F') → (⟨l, cS l, cS (l + 1), F'⟩ : Step) ∈ post)) ∧
      All Φ ((k (aS all.length)).run (tS all.length) (cS all.length) b F') ∧ F'.ok ∧ c ≤ cS all.length
  | [], i, a, t, c, F, acc, hd, hi, hr, hF, hb => by
    have hN : all.length = i := by have := congrArg List.length hd; simp at this; omega
    simp only [regD] at hr
    cases hc : clashFree all acc with
    | false => rw [hc] at hr; exact (All.none (show All Φ [none] from hr)).elim
    | true =>
      rw [hc] at hr
      refine ⟨fun _ => a, fun _ => t, fun _ => c, fun _ => none, acc, F, rfl, rfl, rfl, fun j o hj ho => ?_, hc, ⟨[], rfl⟩, fun j v F hj hlt => by omega, hr, hF, Nat.le_refl _⟩
      have := (List.getElem?_eq_some_iff.1 ho).1
      omega
  | o :: rest, i, a, t, c, F, acc, hd, hi, hr, hF, hb => by
    have hlt : i < all.length := by
      have := congrArg List.length hd; simp at this; omega
    have hoi : all[i]? = some o := by
      have := congrArg List.head? hd
      rw [List.head?_drop] at this; exact this
    have hd' : all.drop (i + 1) = rest := by
      have := congrArg List.tail hd
      rw [List.tail_drop] at this; exact this
    simp only [regD] at hr
    cases hdo : dstOk a.sz o.dst with
    | false => rw [hdo] at hr; exact (All.none (show All Φ [none] from hr)).elim
    | true =>
      rw [hdo] at hr
      simp only [cond_true] at hr
      obtain ⟨wb, hw, hr⟩ := wantE_run hr
      · cases wb with
        | false =>
          obtain ⟨aS, tS, cS, rc, accN, F', e1, e2, e3, st, hcf, ⟨pre0, hpre0⟩, hmem, hk, hF', hup⟩ := regD_tr rest (i + 1) _ t c F acc hd' hlt hr hF hb
          refine ⟨fun j => if j ≤ i then a else aS j, fun j => if j ≤ i then t else tS j, fun j => if j ≤ i then c else cS j, fun j => if j ≤ i then none else rc j, accN, F', if_pos (Nat.le_refl _), if_pos (Nat.le_refl _), if_pos (Nat.le_refl _), fun j o' hj ho => ?_, hcf, ⟨pre0, hpre0⟩, fun j v F0 hj hjl hrc => ?_, ?_, hF', ?_⟩
          · by_cases ej : j = i
            · subst ej
              rw [hoi] at ho; cases ho
              refine ⟨by simp [hdo], .inl ⟨by simp, by simp [hw], ?_, ?_, ?_⟩⟩
              · simp only [if_neg (show ¬ j + 1 ≤ j by omega), Nat.le_refl, if_true, e1]
              · simp only [if_neg (show ¬ j + 1 ≤ j by omega), Nat.le_refl, if_true, e2]
              · simp only [if_neg (show ¬ j + 1 ≤ j by omega), Nat.le_refl, if_true, e3]
            · have := st j o' (by omega) ho
              unfold StepAt at this ⊢
              simp only [if_neg (show ¬ j ≤ i by omega), if_neg (show ¬ j + 1 ≤ i by omega)]
              exact this
          · by_cases ej : j ≤ i
            · simp only [if_pos ej] at hrc; cases hrc
            · simp only [if_neg ej, if_neg (show ¬ j + 1 ≤ i by omega)] at hrc ⊢
              obtain ⟨pre, post, h1, h2, h3⟩ := hmem j v F0 (by omega) hjl hrc
              refine ⟨pre, post, h1, h2, fun l v' F0' hl hlj hrl => ?_⟩
              by_cases el : l ≤ i
              · simp only [if_pos el] at hrl; cases hrl
              · simp only [if_neg el, if_neg (show ¬ l + 1 ≤ i by omega)] at hrl ⊢
                exact h3 l v' F0' (by omega) hlj hrl
          · simp only [if_neg (show ¬ all.length ≤ i by omega)]; exact hk
          · simp only [if_neg (show ¬ all.length ≤ i by omega)]; exact hup
        | true =>
          rw [if_pos rfl] at hr
          rw [run_scope] at hr
          have hr' := All.eachOf.1 hr
          have hne := run_ne (op a o .pure) t c c Foot.empty
          -- one out
          obtain ⟨v1, t1, c1, F1, hout⟩ : ∃ v1 t1 c1 F1, (op a o .pure).run t c c Foot.empty = [some (v1, t1, c1, F1)] := by
            cases hl : (op a o .pure).run t c c Foot.empty with
            | nil => exact absurd hl hne
            | cons r l =>
              rw [hl] at hr'
              obtain ⟨q, rfl, hq⟩ := hr' _ (List.mem_cons_self ..)
              cases l with
              | nil => obtain ⟨v1, t1, c1, F1⟩ := q; exact ⟨v1, t1, c1, F1, rfl⟩
              | cons r2 l =>
                have : many (some q :: r2 :: l) = true := rfl
                rw [this] at hq
                exact (All.none (show All Φ [none] from hq)).elim
          obtain ⟨q, e, hq⟩ := hr' (some (v1, t1, c1, F1)) (by rw [hout]; exact List.mem_cons_self ..)
          cases e
          rw [hout] at hq
          simp only [many, cond_false] at hq
          have kp := E.keeps _ _ _ _ _ (v1, t1, c1, F1) (by rw [hout]; exact List.mem_cons_self ..) (Nat.le_refl c) (fun x hx => absurd (Foot.look_empty x) hx)
          have kup : c ≤ c1 := kp.up
          obtain ⟨aS, tS, cS, rc, accN, F', e1, e2, e3, st, hcf, ⟨pre0, hpre0⟩, hmem, hk, hF', hup⟩ := regD_tr rest (i + 1) _ t1 c1 _ _ hd' hlt hq (Foot.merge_ok hF) (by omega)
          refine ⟨fun j => if j ≤ i then a else aS j, fun j => if j ≤ i then t else tS j, fun j => if j ≤ i then c else cS j, fun j => if j < i then none else if j = i then some (v1, F1) else rc j, accN, F', if_pos (Nat.le_refl _), if_pos (Nat.le_refl _), if_pos (Nat.le_refl _), fun j o' hj ho => ?_, hcf, ⟨pre0 ++ [⟨i, c, c1, F1⟩], by rw [hpre0]; simp⟩, fun j v F0 hj hjl hrc => ?_, ?_, hF', ?_⟩
          · by_cases ej : j = i
            · subst ej
              rw [hoi] at ho; cases ho
              refine ⟨by simp [hdo], .inr ⟨v1, F1, by simp, by simp [hw], by simp only [if_neg (show ¬ j + 1 ≤ j by omega), Nat.le_refl, if_true, e1], ?_⟩⟩
              simp only [Nat.le_refl, if_true, if_neg (show ¬ j + 1 ≤ j by omega), e2, e3]
              exact hout
            · have := st j o' (by omega) ho
              unfold StepAt at this ⊢
              simp only [if_neg (show ¬ j ≤ i by omega), if_neg (show ¬ j + 1 ≤ i by omega), if_neg (show ¬ j < i by omega), if_neg ej]
              exact this
          · by_cases ej : j = i
            · subst ej
              simp only [Nat.lt_irrefl, if_false, if_true, Option.some.injEq, Prod.mk.injEq] at hrc
              obtain ⟨rfl, rfl⟩ := hrc
              simp only [Nat.le_refl, if_true, if_neg (show ¬ j + 1 ≤ j by omega), e3]
              exact ⟨pre0, acc, hpre0, fun p hp => hp, fun l v' F' hl hlj => by omega⟩
            · have hj' : i < j := by omega
              simp only [if_neg (show ¬ j < i by omega), if_neg ej] at hrc
              simp only [if_neg (show ¬ j ≤ i by omega), if_neg (show ¬ j + 1 ≤ i by omega)]
              obtain ⟨pre, post, h1, h2, h3⟩ := hmem j v F0 (by omega) hjl hrc
              refine ⟨pre, post, h1, fun p hp => h2 p (List.mem_cons_of_mem _ hp), fun l v' F0' hl hlj hrl => ?_⟩
              by_cases el : l = i
              · subst el
                simp only [Nat.lt_irrefl, if_false, if_true, Option.some.injEq, Prod.mk.injEq] at hrl
                obtain ⟨rfl, rfl⟩ := hrl
                simp only [Nat.le_refl, if_true, if_neg (show ¬ l + 1 ≤ l by omega), e3]
                exact h2 _ (List.mem_cons_self ..)
              · simp only [if_neg (show ¬ l < i by omega), if_neg el] at hrl
                simp only [if_neg (show ¬ l ≤ i by omega), if_neg (show ¬ l + 1 ≤ i by omega)]
                exact h3 l v' F0' (by omega) hlj hrl
          · simp only [if_neg (show ¬ all.length ≤ i by omega)]; exact hk
          · simp only [if_neg (show ¬ all.length ≤ i by omega)]; omega
theorem clashFree_pair {all : List Oper} : ∀ {pre : List Step} {q : Step} {post : List Step}, clashFree all (pre ++ q :: post) = true → ∀ p ∈ post, clash p q = true → befB all all.length p.i q.i = true
  | [], q, post, h, p, hp, hc => by
    simp only [List.nil_append, clashFree, Bool.and_eq_true] at h
    have := List.all_eq_true.1 h.1 p hp
    rw [hc] at this; simpa using this
  | x :: pre, q, post, h, p, hp, hc => by
    simp only [List.cons_append, clashFree, Bool.and_eq_true] at h
    exact clashFree_pair h.2 p hp hc
end
end Px
end

section
namespace Px
open Go Go.RowKit
set_option linter.unusedVariables false
set_option linter.unusedSimpArgs false
open Classical in
/-- What was written by those of a set, in the order of the text. -/
noncomputable def hs (tS : Nat → T AObj) (cS : Nat → Nat) (rc : Nat → Option (AV × Foot)) (S : Nat → Bool) : Nat → Hp
  | 0 => (tS 0).look
  | i + 1 => fun x => if S i = true ∧ (∃ v F, rc i = some (v, F) ∧ (F.wrote x ∨ (cS i ≤ x ∧ x < cS (i + 1)))) then (tS (i + 1)).look x else hs tS cS rc S i x
def valAt (rc : Nat → Option (AV × Foot)) (i : Nat) : AV := match rc i with | some (v, _) => v | none => undA
open Classical in
noncomputable def es (aS : Nat → AAct) (all : List Oper) (rc : Nat → Option (AV × Foot)) (S : Nat → Bool) : Nat → Nat → AV
  | 0 => (aS 0).at
  | i + 1 => fun t => if S i = true ∧ (∃ o, all[i]? = some o ∧ o.dst = some t) then valAt rc i else es aS all rc S i t
theorem put_at (a : AAct) (d : Option Tmp) (v : AV) (t : Nat) : (a.put d v).at t = if d = some t then v else a.at t := by
  cases d with
  | none => rfl
  | some d =>
    rw [at_eq, at_eq]
    show ((a.tm.put v d).look t).getD undA = _
    rw [T.look_put]
    by_cases e : t = d
    · subst e; simp
    · rw [if_neg e, if_neg (fun h => e (Option.some.inj h).symm)]
theorem put_sz (a : AAct) (d : Option Tmp) (v : AV) : (a.put d v).sz = a.sz := by cases d <;> rfl
section
variable {tb : Tab} {gw : Nat → Bool} {call : FuncId → List AV → (AV → E) → E} {all : List Oper} {aS : Nat → AAct} {tS : Nat → T AObj} {cS : Nat → Nat} {rc : Nat → Option (AV × Foot)} {S : Nat → Bool}
/-- The whole trace of a region. -/
structure Trc (tb : Tab) (gw : Nat → Bool) (call : FuncId → List AV → (AV → E) → E) (all : List Oper) (aS : Nat → AAct) (tS : Nat → T AObj) (cS : Nat → Nat) (rc : Nat → Option (AV × Foot)) : Prop where
  st : ∀ j o, all[j]? = some o → StepAt (opE tb gw call) all aS tS cS rc j o
  pair : ∀ i j v F v' F', i < j → j < all.length → rc i = some (v, F) → rc j = some (v', F') → clash ⟨i, cS i, cS (i + 1), F⟩ ⟨j, cS j, cS (j + 1), F'⟩ = true → befB all all.length i j = true
  reg : regOk all = true
theorem Trc.oper (tr : Trc tb gw call all aS tS cS rc) {i : Nat} (h : i < all.length) : ∃ o, all[i]? = some o := ⟨_, List.getElem?_eq_getElem h⟩
theorem Trc.ran (tr : Trc tb gw call all aS tS cS rc) {i : Nat} (h : i < all.length) {v : AV} {F : Foot} (hr : rc i = some (v, F)) : F.ok ∧ (∀ x, F.has x → x < cS i) ∧ cS i ≤ cS (i + 1) ∧ ∀ x, ¬ F.wrote x → ¬ (cS i ≤ x ∧ x < cS (i + 1)) → (tS (i + 1)).look x = (tS i).look x := by
  obtain ⟨o, ho⟩ := tr.oper h
  rcases (tr.st i o ho).2 with ⟨h1, _⟩ | ⟨v', F', h1, _, _, hrun⟩
  · rw [hr] at h1; cases h1
  · rw [hr] at h1; cases h1
    have kp := E.keeps _ _ _ _ _ (v, tS (i + 1), cS (i + 1), F) (by rw [hrun]; exact List.mem_cons_self ..) (Nat.le_refl _) (fun x hx => absurd (Foot.look_empty x) hx)
    refine ⟨kp.ok, fun x hx => ?_, kp.up, kp.same⟩
    rcases kp.low x hx with h | h
    · exact absurd (Foot.look_empty x) h
    · exact h
theorem Trc.up1 (tr : Trc tb gw call all aS tS cS rc) {i : Nat} (h : i < all.length) : cS i ≤ cS (i + 1) := by
  obtain ⟨o, ho⟩ := tr.oper h
  rcases (tr.st i o ho).2 with ⟨_, _, _, _, h1⟩ | ⟨v', F', h1, _⟩
  · omega
  · exact (tr.ran h h1).2.2.1
theorem Trc.up (tr : Trc tb gw call all aS tS cS rc) {i : Nat} : ∀ {j : Nat}, i ≤ j → j ≤ all.length → cS i ≤ cS j := by
  intro j hij hj
  induction j with
  | zero => rw [show i = 0 by omega]; exact Nat.le_refl _
  | succ j ih =>
    by_cases e : i = j + 1
    · rw [e]; exact Nat.le_refl _
    · exact Nat.le_trans (ih (by omega) (by omega)) (tr.up1 (by omega))
theorem Trc.same (tr : Trc tb gw call all aS tS cS rc) {i : Nat} (h : i < all.length) {x : Nat} (hx : ¬ ∃ v F, rc i = some (v, F) ∧ (F.wrote x ∨ (cS i ≤ x ∧ x < cS (i + 1)))) : (tS (i + 1)).look x = (tS i).look x := by
  obtain ⟨o, ho⟩ := tr.oper h
  rcases (tr.st i o ho).2 with ⟨_, _, _, h1, _⟩ | ⟨v', F', h1, _⟩
  · rw [h1]
  · exact (tr.ran h h1).2.2.2 x (fun hw => hx ⟨v', F', h1, .inl hw⟩) (fun hr => hx ⟨v', F', h1, .inr hr⟩)
theorem clash_of {p q : Step} (hq : q.F.ok) {x : Nat} (hx : q.F.has x) (h : (p.c0 ≤ x ∧ x < p.c1) ∨ p.F.wrote x ∨ (p.F.has x ∧ q.F.wrote x)) : clash p q = true := by
  unfold clash
  rw [List.any_eq_true]
  refine ⟨x, hq x hx, ?_⟩
  rcases h with ⟨h1, h2⟩ | h | ⟨h1, h2⟩
  · rw [Nat.ble_eq.mpr h1, blt_yes h2]; rfl
  · unfold Foot.wrote at h; rw [h]; simp
  · unfold Foot.has at h1
    cases e : p.F.mark.look x with
    | none => exact absurd e h1
    | some b =>
      cases b with
      | true => simp
      | false => unfold Foot.wrote at h2; rw [h2]; simp
theorem Trc.edges (tr : Trc tb gw call all aS tS cS rc) {j : Nat} {o : Oper} (ho : all[j]? = some o) : (∀ e ∈ o.after.toList, Region.binds .any e = true → e.on < j) ∧ ∀ i p, i < j → all[i]? = some p → befB all all.length i j = true ∨ apartT all p o = true := by
  have hj := (List.getElem?_eq_some_iff.1 ho).1
  have h := tr.reg
  unfold regOk at h
  have := List.all_eq_true.1 h j (List.mem_range.2 hj)
  rw [ho] at this
  simp only [Bool.and_eq_true] at this
  obtain ⟨h1, h2⟩ := this
  refine ⟨fun e he hb => ?_, fun i p hi hp => ?_⟩
  · have := List.all_eq_true.1 h1 e he
    rw [hb] at this
    simpa [Nat.blt_eq] using this
  · have := List.all_eq_true.1 h2 i (List.mem_range.2 hi)
    rw [hp] at this
    simpa using this
/-- A set that holds, with each, what stands before it. -/
def Closed (all : List Oper) (S : Nat → Bool) : Prop := ∀ i o, all[i]? = some o → S i = true → ∀ e ∈ o.after.toList, Region.binds .any e = true → S e.on = true
def Rdy (all : List Oper) (S : Nat → Bool) (j : Nat) : Prop := ∀ o, all[j]? = some o → ∀ e ∈ o.after.toList, Region.binds .any e = true → S e.on = true
theorem bef_in (hc : Closed all S) : ∀ (n i j : Nat), Rdy all S j → befB all n i j = true → S i = true
  | 0, i, j, _, h => by simp [befB] at h
  | n + 1, i, j, hr, h => by
    simp only [befB] at h
    cases ho : all[j]? with
    | none => rw [ho] at h; cases h
    | some o =>
      rw [ho] at h
      simp only [List.any_eq_true, Bool.and_eq_true, Bool.or_eq_true, Nat.beq_eq] at h
      obtain ⟨e, he, hb, h⟩ := h
      have hs := hr o ho e he hb
      rcases h with h | h
      · rw [← h]; exact hs
      · exact bef_in hc n i e.on (fun o' ho' e' he' hb' => hc e.on o' ho' hs e' he' hb') h
theorem Trc.readH (tr : Trc tb gw call all aS tS cS rc) (hc : Closed all S) {j : Nat} (hj : j < all.length) (hr : Rdy all S j) (hn : S j = false) {v : AV} {F : Foot} (hrc : rc j = some (v, F)) {x : Nat} (hx : F.has x) : hs tS cS rc S all.length x = (tS j).look x := by
  obtain ⟨fok, flow, _, _⟩ := tr.ran hj hrc
  have c1 : ∀ m, m ≤ j → hs tS cS rc S m x = (tS m).look x := by
    intro m
    induction m with
    | zero => intro _; rfl
    | succ m ih =>
      intro hm
      simp only [hs]
      by_cases hd : ∃ v F, rc m = some (v, F) ∧ (F.wrote x ∨ (cS m ≤ x ∧ x < cS (m + 1)))
      · obtain ⟨v', F', h1, h2⟩ := hd
        have hbef := tr.pair m j v' F' v F (by omega) hj h1 hrc (clash_of fok hx (h2.elim (fun h => .inr (.inl h)) .inl))
        have := bef_in hc _ m j hr hbef
        rw [if_pos ⟨this, v', F', h1, h2⟩]
      · rw [if_neg (fun h => hd h.2), ih (by omega)]
        exact (tr.same (by omega) hd).symm
  have c2 : ∀ d, j + d ≤ all.length → hs tS cS rc S (j + d) x = (tS j).look x := by
    intro d
    induction d with
    | zero => intro _; exact c1 j (Nat.le_refl _)
    | succ d ih =>
      intro hd
      show hs tS cS rc S (j + d + 1) x = _
      simp only [hs]
      rw [if_neg, ih (by omega)]
      rintro ⟨hsd, v', F', h1, h2⟩
      by_cases e : d = 0
      · subst e; rw [Nat.add_zero] at hsd; rw [hn] at hsd; cases hsd
      · rcases h2 with h2 | h2
        · obtain ⟨fok', _, _, _⟩ := tr.ran (show j + d < all.length by omega) h1
          have hbef := tr.pair j (j + d) v F v' F' (by omega) (by omega) hrc h1 (clash_of fok' (Foot.wrote_has h2) (.inr (.inr ⟨hx, h2⟩)))
          have := bef_in hc _ j (j + d) (fun o ho e he hb => hc _ o ho hsd e he hb) hbef
          rw [hn] at this; cases this
        · have := flow x hx
          have := tr.up (show j ≤ j + d by omega) (by omega)
          omega
  have := c2 (all.length - j) (by omega)
  rwa [show j + (all.length - j) = all.length by omega] at this
theorem Trc.freshH (tr : Trc tb gw call all aS tS cS rc) (hc : Closed all S) {j : Nat} (hj : j < all.length) (hn : S j = false) {v : AV} {F : Foot} (hrc : rc j = some (v, F)) {x : Nat} (hx : cS j ≤ x ∧ x < cS (j + 1)) (h0 : (tS 0).look x = none) : hs tS cS rc S all.length x = none := by
  have key : ∀ m, m ≤ all.length → hs tS cS rc S m x = none := by
    intro m
    induction m with
    | zero => intro _; exact h0
    | succ m ih =>
      intro hm
      simp only [hs]
      rw [if_neg, ih (by omega)]
      rintro ⟨hsd, v', F', h1, h2⟩
      obtain ⟨fok', flow', _, _⟩ := tr.ran (show m < all.length by omega) h1
      by_cases e : m = j
      · subst e; rw [hn] at hsd; cases hsd
      · by_cases el : m < j
        · have := tr.up (show m + 1 ≤ j by omega) (by omega)
          have := tr.up1 (show m < all.length by omega)
          rcases h2 with h2 | h2
          · have := flow' x (Foot.wrote_has h2); omega
          · omega
        · have := tr.up (show j + 1 ≤ m by omega) (by omega)
          rcases h2 with h2 | h2
          · have hbef := tr.pair j m v F v' F' (by omega) (by omega) hrc h1 (clash_of fok' (Foot.wrote_has h2) (.inl hx))
            have := bef_in hc _ j m (fun o ho e he hb => hc _ o ho hsd e he hb) hbef
            rw [hn] at this; cases this
          · omega
  exact key _ (Nat.le_refl _)
/-- The set with one more. -/
def plus (S : Nat → Bool) (j : Nat) : Nat → Bool := fun i => if i = j then true else S i
theorem Trc.plusH (tr : Trc tb gw call all aS tS cS rc) (hc : Closed all S) {j : Nat} (hj : j < all.length) (hn : S j = false) (x : Nat) :
    ((∃ v F, rc j = some (v, F) ∧ (F.wrote x ∨ (cS j ≤ x ∧ x < cS (j + 1)))) → hs tS cS rc (plus S j) all.length x = (tS (j + 1)).look x) ∧
    ((¬ ∃ v F, rc j = some (v, F) ∧ (F.wrote x ∨ (cS j ≤ x ∧ x < cS (j + 1)))) → hs tS cS rc (plus S j) all.length x = hs tS cS rc S all.length x) := by
  refine ⟨fun ⟨v, F, hrc, hx⟩ => ?_, fun hx => ?_⟩
  · obtain ⟨fok, flow, _, _⟩ := tr.ran hj hrc
    have key : ∀ d, j + 1 + d ≤ all.length → hs tS cS rc (plus S j) (j + 1 + d) x = (tS (j + 1)).look x := by
      intro d
      induction d with
      | zero => intro _; show hs tS cS rc (plus S j) (j + 1) x = _; simp only [hs]; rw [if_pos ⟨by simp [plus], v, F, hrc, hx⟩]
      | succ d ih =>
        intro hd
        show hs tS cS rc (plus S j) (j + 1 + d + 1) x = _
        simp only [hs]
        rw [if_neg, ih (by omega)]
        rintro ⟨hsd, v', F', h1, h2⟩
        simp only [plus, if_neg (show ¬ j + 1 + d = j by omega)] at hsd
        obtain ⟨fok', flow', _, _⟩ := tr.ran (show j + 1 + d < all.length by omega) h1
        have hu := tr.up (show j + 1 ≤ j + 1 + d by omega) (by omega)
        have contra : clash ⟨j, cS j, cS (j + 1), F⟩ ⟨j + 1 + d, cS (j + 1 + d), cS (j + 1 + d + 1), F'⟩ = true → False := fun hcl => by
          have := bef_in hc _ j (j + 1 + d) (fun o ho e he hb => hc _ o ho hsd e he hb) (tr.pair j (j + 1 + d) v F v' F' (by omega) (by omega) hrc h1 hcl)
          rw [hn] at this; cases this
        rcases h2 with h2 | h2
        · exact contra (clash_of fok' (Foot.wrote_has h2) (hx.elim (fun h => .inr (.inl h)) .inl))
        · rcases hx with hx | hx
          · have := flow x (Foot.wrote_has hx)
            have := tr.up1 hj
            omega
          · omega
    have := key (all.length - (j + 1)) (by omega)
    rwa [show j + 1 + (all.length - (j + 1)) = all.length by omega] at this
  · have : ∀ m, hs tS cS rc (plus S j) m x = hs tS cS rc S m x := by
      intro m
      induction m with
      | zero => rfl
      | succ m ih =>
        simp only [hs]
        by_cases e : m = j
        · subst e
          rw [if_neg (fun h => hx h.2), if_neg (fun h => hx h.2), ih]
        · have ep : plus S j m = S m := by unfold plus; rw [if_neg e]
          rw [ep, ih]
    exact this _
theorem Trc.at1 (tr : Trc tb gw call all aS tS cS rc) {i : Nat} (h : i < all.length) {o : Oper} (ho : all[i]? = some o) (t : Nat) : (aS (i + 1)).at t = (if o.dst = some t then valAt rc i else (aS i).at t) ∧ (aS (i + 1)).sz = (aS i).sz := by
  rcases (tr.st i o ho).2 with ⟨h1, _, h2, _⟩ | ⟨v, F, h1, _, h2, _⟩
  · rw [h2, put_at]; unfold valAt; rw [h1]; exact ⟨rfl, put_sz _ _ _⟩
  · rw [h2, put_at]; unfold valAt; rw [h1]; exact ⟨rfl, put_sz _ _ _⟩
theorem apartT_no {p o : Oper} (h : apartT all p o = true) {d : Tmp} : (p.dst = some d → d ∉ lookT all o ∧ o.dst ≠ some d) ∧ (o.dst = some d → d ∉ lookT all p) := by
  unfold apartT at h
  simp only [Bool.and_eq_true] at h
  refine ⟨fun hp => ?_, fun ho => ?_⟩
  · have := h.1
    rw [hp] at this
    simpa using this
  · have := h.2
    rw [ho] at this
    simpa using this
theorem Trc.readE (tr : Trc tb gw call all aS tS cS rc) (hc : Closed all S) {j : Nat} (hj : j < all.length) (hr : Rdy all S j) (hn : S j = false) {o : Oper} (ho : all[j]? = some o) {t : Nat} (ht : t ∈ lookT all o) : es aS all rc S all.length t = (aS j).at t := by
  have c1 : ∀ m, m ≤ j → es aS all rc S m t = (aS m).at t := by
    intro m
    induction m with
    | zero => intro _; rfl
    | succ m ih =>
      intro hm
      obtain ⟨p, hp⟩ := tr.oper (show m < all.length by omega)
      simp only [es]
      rw [(tr.at1 (by omega) hp t).1]
      by_cases hd : p.dst = some t
      · rw [if_pos hd]
        have hS : S m = true := by
          rcases (tr.edges ho).2 m p (by omega) hp with h | h
          · exact bef_in hc _ m j hr h
          · exact absurd ht ((apartT_no h).1 hd).1
        rw [if_pos ⟨hS, p, hp, hd⟩]
      · rw [if_neg hd, if_neg, ih (by omega)]
        rintro ⟨_, p', hp', hd'⟩
        rw [hp] at hp'; cases hp'; exact hd hd'
  have c2 : ∀ d, j + d ≤ all.length → es aS all rc S (j + d) t = (aS j).at t := by
    intro d
    induction d with
    | zero => intro _; exact c1 j (Nat.le_refl _)
    | succ d ih =>
      intro hd
      show es aS all rc S (j + d + 1) t = _
      simp only [es]
      rw [if_neg, ih (by omega)]
      rintro ⟨hsd, p, hp, hpd⟩
      by_cases e : d = 0
      · subst e; rw [Nat.add_zero] at hsd; rw [hn] at hsd; cases hsd
      · rcases (tr.edges hp).2 j o (by omega) ho with h | h
        · have := bef_in hc _ j (j + d) (fun o ho e he hb => hc _ o ho hsd e he hb) h
          rw [hn] at this; cases this
        · exact (apartT_no h).2 hpd ht
  have := c2 (all.length - j) (by omega)
  rwa [show j + (all.length - j) = all.length by omega] at this
theorem Trc.plusE (tr : Trc tb gw call all aS tS cS rc) (hc : Closed all S) {j : Nat} (hj : j < all.length) (hn : S j = false) {o : Oper} (ho : all[j]? = some o) (t : Nat) : es aS all rc (plus S j) all.length t = if o.dst = some t then valAt rc j else es aS all rc S all.length t := by
  by_cases hd : o.dst = some t
  · rw [if_pos hd]
    have key : ∀ d, j + 1 + d ≤ all.length → es aS all rc (plus S j) (j + 1 + d) t = valAt rc j := by
      intro d
      induction d with
      | zero => intro _; show es aS all rc (plus S j) (j + 1) t = _; simp only [es]; rw [if_pos ⟨by simp [plus], o, ho, hd⟩]
      | succ d ih =>
        intro hdl
        show es aS all rc (plus S j) (j + 1 + d + 1) t = _
        simp only [es]
        rw [if_neg, ih (by omega)]
        rintro ⟨hsd, p, hp, hpd⟩
        simp only [plus, if_neg (show ¬ j + 1 + d = j by omega)] at hsd
        rcases (tr.edges hp).2 j o (by omega) ho with h | h
        · have := bef_in hc _ j (j + 1 + d) (fun o ho e he hb => hc _ o ho hsd e he hb) h
          rw [hn] at this; cases this
        · exact ((apartT_no h).1 hd).2 hpd
    have := key (all.length - (j + 1)) (by omega)
    rwa [show j + 1 + (all.length - (j + 1)) = all.length by omega] at this
  · rw [if_neg hd]
    have : ∀ m, es aS all rc (plus S j) m t = es aS all rc S m t := by
      intro m
      induction m with
      | zero => rfl
      | succ m ih =>
        simp only [es]
        by_cases e : m = j
        · subst e
          have h : ¬ ∃ p, all[m]? = some p ∧ p.dst = some t := fun ⟨p, hp, hpd⟩ => by rw [ho] at hp; cases hp; exact hd hpd
          rw [if_neg (fun hh => h hh.2), if_neg (fun hh => h hh.2), ih]
        · have ep : plus S j m = S m := by unfold plus; rw [if_neg e]
          rw [ep, ih]
    exact this _
theorem Trc.allS (tr : Trc tb gw call all aS tS cS rc) (hS : ∀ i, i < all.length → S i = true) : (∀ x, hs tS cS rc S all.length x = (tS all.length).look x) ∧ (∀ t, es aS all rc S all.length t = (aS all.length).at t) := by
  refine ⟨fun x => ?_, fun t => ?_⟩
  · have : ∀ m, m ≤ all.length → hs tS cS rc S m x = (tS m).look x := by
      intro m
      induction m with
      | zero => intro _; rfl
      | succ m ih =>
        intro hm
        simp only [hs]
        by_cases hd : ∃ v F, rc m = some (v, F) ∧ (F.wrote x ∨ (cS m ≤ x ∧ x < cS (m + 1)))
        · rw [if_pos ⟨hS m (by omega), hd⟩]
        · rw [if_neg (fun h => hd h.2), ih (by omega)]; exact (tr.same (by omega) hd).symm
    exact this _ (Nat.le_refl _)
  · have : ∀ m, m ≤ all.length → es aS all rc S m t = (aS m).at t := by
      intro m
      induction m with
      | zero => intro _; rfl
      | succ m ih =>
        intro hm
        obtain ⟨p, hp⟩ := tr.oper (show m < all.length by omega)
        simp only [es]
        rw [(tr.at1 (by omega) hp t).1]
        by_cases hd : p.dst = some t
        · rw [if_pos hd, if_pos ⟨hS m (by omega), p, hp, hd⟩]
        · rw [if_neg hd, if_neg, ih (by omega)]
          rintro ⟨_, p', hp', hd'⟩
          rw [hp] at hp'; cases hp'; exact hd hd'
    exact this _ (Nat.le_refl _)
end
end Px
end

section
namespace Px
open Go Go.RowKit
set_option linter.unusedVariables false
set_option linter.unusedSimpArgs false
/-- How many of the first are not in a set. -/
def cnt (f : Nat → Bool) : Nat → Nat
  | 0 => 0
  | m + 1 => cnt f m + (if f m = true then 0 else 1)
theorem cnt_all {f : Nat → Bool} : ∀ {m : Nat}, cnt f m = 0 → ∀ i, i < m → f i = true
  | 0, _, i, h => by omega
  | m + 1, h, i, hi => by
    simp only [cnt] at h
    obtain ⟨h1, h2⟩ := Nat.add_eq_zero_iff.1 h
    by_cases e : i = m
    · subst e
      by_cases hf : f i = true
      · exact hf
      · rw [if_neg hf] at h2; omega
    · exact cnt_all h1 i (by omega)
theorem cnt_le {f : Nat → Bool} : ∀ {m : Nat}, cnt f m ≤ m
  | 0 => Nat.le_refl _
  | m + 1 => by
    have := @cnt_le f m
    simp only [cnt]
    split <;> omega
theorem cnt_plus {f : Nat → Bool} {j : Nat} (hj : f j = false) : ∀ {m : Nat}, (m ≤ j → cnt (plus f j) m = cnt f m) ∧ (j < m → cnt (plus f j) m + 1 = cnt f m) := by
  intro m
  induction m with
  | zero => exact ⟨fun _ => rfl, fun h => by omega⟩
  | succ m ih =>
    obtain ⟨i1, i2⟩ := ih
    refine ⟨fun h => ?_, fun h => ?_⟩
    · have ep : plus f j m = f m := by unfold plus; rw [if_neg (by omega)]
      simp only [cnt]
      rw [ep, i1 (by omega)]
    · simp only [cnt]
      by_cases e : m = j
      · subst e
        have ep : plus f m m = true := by simp [plus]
        rw [i1 (Nat.le_refl _), if_pos ep, hj]
        simp
      · have ep : plus f j m = f m := by unfold plus; rw [if_neg e]
        rw [ep]
        have := i2 (by omega)
        generalize (if f m = true then 0 else 1) = z
        omega
theorem closed_plus {all : List Oper} {S : Nat → Bool} {j : Nat} (hc : Closed all S) (hr : Rdy all S j) : Closed all (plus S j) := fun i o ho hs e he hb => by
  have : S e.on = true := by
    by_cases ei : i = j
    · subst ei; exact hr o ho e he hb
    · exact hc i o ho (by unfold plus at hs; rwa [if_neg ei] at hs) e he hb
  unfold plus
  split
  · rfl
  · exact this
theorem set_plus {listed : Array Bool} {i : Nat} (hi : i < listed.size) : (fun k => (listed.setIfInBounds i true).getD k false) = plus (fun k => listed.getD k false) i := by
  funext k
  unfold plus
  simp only [Array.getD_eq_getD_getElem?, Array.getElem?_setIfInBounds]
  by_cases e : k = i
  · subst e; simp [hi]
  · rw [if_neg (fun h => e h.symm), if_neg e]
theorem ready_of {ops : Array Oper} {listed : Array Bool} {i : Nat} (h : i ∈ Region.ready .any ops listed) : i < ops.size ∧ listed.getD i true = false ∧ Rdy ops.toList (fun k => listed.getD k false) i := by
  unfold Region.ready at h
  rw [List.mem_filter, List.mem_range, Bool.and_eq_true] at h
  obtain ⟨h1, h2, h3⟩ := h
  refine ⟨h1, by simpa using h2, fun o ho e he hb => ?_⟩
  rw [Array.getElem?_toList] at ho
  rw [ho] at h3
  simp only [Option.map_some, Option.getD_some] at h3
  rw [← Array.all_toList] at h3
  have := List.all_eq_true.1 h3 e he
  rw [hb] at this
  simpa using this
theorem ready_in {ops : Array Oper} {listed : Array Bool} {i : Nat} (h1 : i < ops.size) (h2 : listed.getD i true = false) (h3 : Rdy ops.toList (fun k => listed.getD k false) i) : i ∈ Region.ready .any ops listed := by
  unfold Region.ready
  rw [List.mem_filter, List.mem_range, Bool.and_eq_true]
  refine ⟨h1, by rw [h2]; rfl, ?_⟩
  have ho : ops[i]? = some ops[i] := Array.getElem?_eq_getElem h1
  rw [ho]
  simp only [Option.map_some, Option.getD_some]
  rw [← Array.all_toList]
  refine List.all_eq_true.2 fun e he => ?_
  cases hb : Region.binds .any e with
  | false => rfl
  | true =>
    have := h3 ops[i] (by rw [Array.getElem?_toList]; exact ho) e he hb
    simpa using this
theorem rel_bool {tb : Tab} {μ : Mu} {v : AV} {q : Bool} (h : Rel tb μ v (.bool q)) : v = .bool q ∨ v = .dead ∨ ∃ t p, v = .pv t p := by
  cases v with
  | bool b => have e : Value.bool q = .bool b := h; cases e; exact .inl rfl
  | dead => exact .inr (.inl rfl)
  | pv t p => exact .inr (.inr ⟨t, p, rfl⟩)
  | ptr a => cases a <;> simp [Rel] at h
  | map r => cases r <;> simp [Rel] at h
  | vs x ver t es =>
    obtain ⟨h, _, _⟩ := h
    rcases h with ⟨_, _, _, h, _⟩ | ⟨_, _, _, _, _, _, h, _⟩ | ⟨_, _, _, _, h, _⟩ <;> cases h
  | fp t p => obtain ⟨_, _, _, h, _⟩ := h; cases h
  | ar x t => obtain ⟨_, _, _, _, _, _, _, h, _⟩ := h; cases h
  | ap x t i => obtain ⟨_, _, _, _, _, h⟩ := h; cases h
  | _ => simp [Rel] at h
theorem wantA_congr {all : List Oper} {a a' : AAct} {o : Oper} (h : ∀ t ∈ lookT all o, a.at t = a'.at t) : wantA all a o = wantA all a' o := by
  unfold wantA
  cases hg : o.guard with
  | none => rfl
  | some p =>
    obtain ⟨j, want⟩ := p
    simp only
    cases hp : all[j]? with
    | none => rfl
    | some p =>
      simp only
      cases hd : p.dst with
      | none => rfl
      | some d =>
        have := h d (by unfold lookT; rw [List.mem_append]; refine .inr ?_; simp [hg, hp, hd])
        simp only [this]
theorem wantA_ok {tb : Tab} {μ : Mu} {ops : Array Oper} {a : AAct} {ca : Act} (ra : ActRel tb μ a ca) {o : Oper} {b : Bool} (h : wantA ops.toList a o = some b) : Region.wanted o (yielded ops ca.tmps) = b := by
  unfold wantA at h
  unfold Region.wanted
  cases hg : o.guard with
  | none => rw [hg] at h; simp only [Option.some.injEq] at h; exact h
  | some p =>
    obtain ⟨j, want⟩ := p
    rw [hg] at h
    simp only at h ⊢
    unfold yielded
    rw [← Array.getElem?_toList]
    cases hp : ops.toList[j]? with
    | none => rw [hp] at h; simp only [Option.some.injEq] at h; subst h; rfl
    | some p =>
      rw [hp] at h
      simp only [Option.bind_some] at h ⊢
      cases hd : p.dst with
      | none => rw [hd] at h; simp only [Option.some.injEq] at h; subst h; rfl
      | some d =>
        rw [hd] at h
        simp only [Option.bind_some] at h ⊢
        have r := ra.tmps d
        rw [Array.getD_eq_getD_getElem?] at r
        split
        · rename_i q e
          rw [e] at r
          rcases rel_bool r with hv | hv | ⟨_, _, hv⟩
          · rw [hv] at h
            simp only [Option.some.injEq] at h
            subst h
            cases q <;> cases want <;> rfl
          · rw [hv] at h; cases h
          · rw [hv] at h; cases h
        · rename_i hne
          cases hv : a.at d with
          | bool q =>
            rw [hv] at r
            have r : ca.tmps[d]?.getD undef = .bool q := r
            cases e : ca.tmps[d]? with
            | none => rw [e] at r; cases r
            | some u => rw [e] at r; simp only [Option.getD_some] at r; subst r; exact (hne q e).elim
          | dead => rw [hv] at h; cases h
          | pv _ _ => rw [hv] at h; cases h
          | _ => rw [hv] at h; simp only [Option.some.injEq] at h; subst h; rfl
section
variable {P : Program} {tb : Tab} {gw : Nat → Bool} {B : Bs} {Φ : Res → Prop} {cE : Nat} {b : Nat} {μ : Mu} {t : T AObj} {c : Nat} {F : Foot} {w : World} {a : AAct} {ca : Act}
variable {call : FuncId → List AV → (AV → E) → E} {aS : Nat → AAct} {tS : Nat → T AObj} {cS : Nat → Nat} {rc : Nat → Option (AV × Foot)}
/-- The state after a set of operations, in whatever order. -/
def Comp (tb : Tab) (B : Bs) (all : List Oper) (aS : Nat → AAct) (tS : Nat → T AObj) (cS : Nat → Nat) (rc : Nat → Option (AV × Foot)) (μ0 : Mu) (S : Nat → Bool) (ca : Act) (w : World) : Prop :=
  ∃ (μ1 : Mu) (t2 : T AObj) (a2 : AAct), Inv tb B μ1 t2.look w ∧ (∀ x, t2.look x = hs tS cS rc S all.length x) ∧ ActRel tb μ1 a2 ca ∧ (∀ t, a2.at t = es aS all rc S all.length t) ∧ a2.sz = (aS 0).sz ∧ Later μ0 (cS 0) μ1 (cS all.length)
theorem Trc.szS {all : List Oper} (tr : Trc tb gw call all aS tS cS rc) : ∀ {i : Nat}, i ≤ all.length → (aS i).sz = (aS 0).sz
  | 0, _ => rfl
  | i + 1, h => by
    obtain ⟨o, ho⟩ := tr.oper (show i < all.length by omega)
    obtain ⟨_, h1⟩ := tr.at1 (show i < all.length by omega) ho 0
    exact h1.trans (tr.szS (i := i) (by omega))
theorem Foot.ok_empty : Foot.empty.ok := fun x hx => absurd (Foot.look_empty x) hx
theorem regD_any (ok : TabOk P tb) (hcall : ∀ (Φ : Res → Prop) (cE : Nat), (∀ q, Φ q → q.2.2.1 ≤ cE) → CallOk P tb B Φ cE call) {ops : Array Oper} (tr : Trc tb gw call ops.toList aS tS cS rc)
    (h0 : ∀ x, cS 0 ≤ x → x < cS ops.toList.length → (tS 0).look x = none) {Q : Exit → Act → World → Prop} {μ0 : Mu}
    (hQ : ∀ S ca w, (∀ i, i < ops.toList.length → S i = true) → Comp tb B ops.toList aS tS cS rc μ0 S ca w → Q .normal ca w) :
    ∀ (n : Nat) (listed : Array Bool) (ca : Act) (w : World), listed.size = ops.size → Closed ops.toList (fun i => listed.getD i false) → cnt (fun i => listed.getD i false) ops.size ≤ n →
      Comp tb B ops.toList aS tS cS rc μ0 (fun i => listed.getD i false) ca w → wpAny P .any ops Q n listed ca w := by
  intro n
  induction n with
  | zero =>
    intro listed ca w hsz hcl hcn hco
    have hall := cnt_all (Nat.le_zero.1 hcn)
    refine ⟨?_, hQ _ ca w (fun i hi => hall i (by simpa using hi)) hco⟩
    cases hr : Region.ready .any ops listed with
    | nil => rfl
    | cons i l =>
      obtain ⟨h1, h2, _⟩ := ready_of (show i ∈ Region.ready .any ops listed by rw [hr]; exact List.mem_cons_self ..)
      have h3 := hall i h1
      have hi : i < listed.size := by omega
      simp only [Array.getD, hi, dif_pos] at h2 h3
      rw [h2] at h3; cases h3
  | succ n ih =>
    intro listed ca w hsz hcl hcn hco
    refine ⟨fun hr => hQ _ ca w (fun i hi => ?_) hco, fun i hi => ?_⟩
    · induction i using Nat.strongRecOn with
      | ind i ih2 =>
        cases hS : listed.getD i false with
        | true => rfl
        | false =>
          have hi' : i < ops.size := by simpa using hi
          have hi2 : i < listed.size := by omega
          have : i ∈ Region.ready .any ops listed := ready_in hi' (by simp only [Array.getD, hi2, dif_pos] at hS ⊢; exact hS) (fun o ho e he hb => by
            have hlt := (tr.edges ho).1 e he hb
            exact ih2 e.on hlt (by omega))
          rw [hr] at this; cases this
    · obtain ⟨h1, h2, hrd⟩ := ready_of hi
      have hi2 : i < listed.size := by omega
      have hn : (fun k => listed.getD k false) i = false := by
        show listed.getD i false = false
        simp only [Array.getD, hi2, dif_pos] at h2 ⊢; exact h2
      have hlt : i < ops.toList.length := by simpa using h1
      obtain ⟨o, ho⟩ := tr.oper hlt
      have ho' : ops[i]? = some o := by rw [← Array.getElem?_toList]; exact ho
      obtain ⟨μ1, t2, a2, hinv, hh, ra, hat, hsz2, lat⟩ := hco
      have hS := set_plus hi2
      have hread : ∀ t ∈ lookT ops.toList o, (aS i).at t = a2.at t := fun t ht => by rw [hat t]; exact (tr.readE hcl hlt hrd hn ho ht).symm
      have hdst : dstOk a2.sz o.dst = true := by rw [hsz2, ← tr.szS (Nat.le_of_lt hlt)]; exact (tr.st i o ho).1
      have hcnt : cnt (plus (fun k => listed.getD k false) i) ops.size ≤ n := by
        have := (cnt_plus (f := fun k => listed.getD k false) hn (m := ops.size)).2 h1
        omega
      unfold wpOp
      rw [ho']
      simp only
      rcases (tr.st i o ho).2 with ⟨hrc, hw, h3, h4, h5⟩ | ⟨v, F, hrc, hw, h3, hrun⟩
      · have hw' : Region.wanted o (yielded ops ca.tmps) = false := wantA_ok ra ((wantA_congr hread).symm.trans hw)
        rw [if_neg (by rw [hw']; simp)]
        refine ih _ _ _ (by simpa using hsz) (by rw [hS]; exact closed_plus hcl hrd) (by rw [hS]; exact hcnt) ?_
        rw [hS]
        refine ⟨μ1, t2, a2.put o.dst undA, hinv, fun x => ?_, ra.put hdst rel_undef, fun t => ?_, (put_sz _ _ _).trans hsz2, lat⟩
        · rw [hh x]
          exact ((tr.plusH hcl hlt hn x).2 (fun ⟨v', F', hx, _⟩ => by rw [hrc] at hx; cases hx)).symm
        · rw [put_at, tr.plusE hcl hlt hn ho t, hat t]
          unfold valAt; rw [hrc]
      · have hw' : Region.wanted o (yielded ops ca.tmps) = true := wantA_ok ra ((wantA_congr hread).symm.trans hw)
        rw [if_pos hw']
        refine .inl ?_
        have hop : opE tb gw call (aS i) o .pure = opE tb gw call a2 o .pure := opE_congr fun t ht => hread t (by unfold lookT; rw [List.mem_append]; exact .inl ht)
        have fr := E.frame (opE tb gw call (aS i) o .pure) (tS i) (cS i) (cS i) Foot.empty (by rw [hrun]; exact fun r hr => ⟨_, List.mem_singleton.1 hr, trivial⟩) (Nat.le_refl _) Foot.ok_empty t2
          (fun q hq x hx => by
            rw [hrun] at hq
            have := List.mem_singleton.1 hq
            simp only [Option.some.injEq] at this
            subst this
            rw [hh x]; exact tr.readH hcl hlt hrd hn hrc hx) (fun x hx1 hx2 => by omega)
        rw [hrun, hop] at fr
        obtain ⟨p, hp, lk⟩ : ∃ p, (opE tb gw call a2 o .pure).run t2 (cS i) (cS i) Foot.empty = [some p] ∧ Like (cS i) t2 (v, tS (i + 1), cS (i + 1), F) p := by
          generalize (opE tb gw call a2 o .pure).run t2 (cS i) (cS i) Foot.empty = l at fr
          cases fr with
          | cons lk tl => cases tl; exact ⟨_, rfl, lk⟩
        have hpc : p.2.2.1 = cS (i + 1) := lk.c
        have hup0 : cS 0 ≤ cS i := tr.up (Nat.zero_le _) (Nat.le_of_lt hlt)
        have hupN : cS (i + 1) ≤ cS ops.toList.length := tr.up hlt (Nat.le_refl _)
        have s : St tb B (fun q => q = p) (cS (i + 1)) (opE tb gw call a2 o .pure) (cS i) μ1 t2 (cS i) Foot.empty w :=
          ⟨by rw [hp]; exact fun r hr => ⟨p, List.mem_singleton.1 hr, rfl⟩, hinv, fun x hx1 hx2 => by
            rw [hh x]; exact tr.freshH hcl hlt hn hrc ⟨hx1, hx2⟩ (h0 x (by omega) (by omega)), Nat.le_refl _, Foot.ok_empty⟩
        have hΦ' : ∀ q : Res, q = p → q.2.2.1 ≤ cS (i + 1) := fun q e => by rw [e, hpc]; exact Nat.le_refl _
        refine op_ok ok hΦ' (hcall _ _ hΦ') s ra fun v1 t1 c1 F1 μ2 w2 u s2 lt r2 => ?_
        obtain ⟨q, e1, e2⟩ := s2.run (some (v1, t1, c1, F1)) (by rw [run_pure]; exact List.mem_singleton.2 rfl)
        simp only [Option.some.injEq] at e1
        subst e1
        subst e2
        have ev : v1 = v := lk.v
        have ec : c1 = cS (i + 1) := lk.c
        subst ev
        refine ih _ _ _ (by simpa using hsz) (by rw [hS]; exact closed_plus hcl hrd) (by rw [hS]; exact hcnt) ?_
        rw [hS]
        refine ⟨μ2, t1, a2.put o.dst v1, s2.inv, fun x => ?_, (ra.mono lt.ext).put hdst r2, fun t => ?_, (put_sz _ _ _).trans hsz2, ⟨Nat.le_trans lat.up (Nat.le_refl _), lat.ext.trans lt.ext⟩⟩
        · by_cases hx : ∃ v F, rc i = some (v, F) ∧ (F.wrote x ∨ (cS i ≤ x ∧ x < cS (i + 1)))
          · rw [(tr.plusH hcl hlt hn x).1 hx]
            obtain ⟨v', F', h1', hx⟩ := hx
            rw [hrc] at h1'
            simp only [Option.some.injEq, Prod.mk.injEq] at h1'
            obtain ⟨rfl, rfl⟩ := h1'
            rcases hx with hx | hx
            · exact lk.has x (Foot.wrote_has hx)
            · exact lk.mid x hx.1 hx.2
          · rw [(tr.plusH hcl hlt hn x).2 hx, ← hh x]
            exact lk.same x (fun hw => hx ⟨v1, F, hrc, .inl hw⟩) (fun hr => hx ⟨v1, F, hrc, .inr hr⟩)
        · rw [put_at, tr.plusE hcl hlt hn ho t, hat t]
          unfold valAt; rw [hrc]
theorem hs_none {S : Nat → Bool} (hS : ∀ i, S i = false) : ∀ (m x : Nat), hs tS cS rc S m x = (tS 0).look x
  | 0, x => rfl
  | m + 1, x => by
    simp only [hs]
    rw [if_neg (fun h => by rw [hS m] at h; exact absurd h.1 (by simp)), hs_none hS m x]
theorem es_none {all : List Oper} {S : Nat → Bool} (hS : ∀ i, S i = false) : ∀ (m t : Nat), es aS all rc S m t = (aS 0).at t
  | 0, t => rfl
  | m + 1, t => by
    simp only [es]
    rw [if_neg (fun h => by rw [hS m] at h; exact absurd h.1 (by simp)), es_none hS m t]
/-- A region whose order is drawn. -/
theorem regD_ok (ok : TabOk P tb) (hΦ : ∀ q, Φ q → q.2.2.1 ≤ cE) (hcall : ∀ (Φ : Res → Prop) (cE : Nat), (∀ q, Φ q → q.2.2.1 ≤ cE) → CallOk P tb B Φ cE call) {ops : Array Oper} (hreg : regOk ops.toList = true) {k : AAct → E}
    (s : St tb B Φ cE (regD (opE tb gw call) ops.toList ops.toList 0 a [] k) b μ t c F w) (ra : ActRel tb μ a ca) {Q : Exit → Act → World → Prop}
    (hN : ∀ a' t' c' F' μ' w' ca', St tb B Φ cE (k a') b μ' t' c' F' w' → Later μ c μ' c' → ActRel tb μ' a' ca' → Q .normal ca' w') :
    wpAny P .any ops Q ops.size (Array.replicate ops.size false) ca w := by
  obtain ⟨aS, tS, cS, rc, accN, F', e1, e2, e3, st, hcf, _, hmem, hk, hF', hup⟩ := regD_tr (b := b) (Φ := Φ) ops.toList 0 a t c F [] rfl (Nat.zero_le _) s.run s.ok s.bc
  subst e1
  subst e2
  subst e3
  have tr : Trc tb gw call ops.toList aS tS cS rc := ⟨fun j o ho => st j o (Nat.zero_le _) ho, fun i j v F v' F' hij hj hi hj' hcl => by
    obtain ⟨pre, post, h1, _, h3⟩ := hmem j v' F' (Nat.zero_le _) hj hj'
    rw [h1] at hcf
    exact clashFree_pair hcf _ (h3 i v F (Nat.zero_le _) hij hi) hcl, hreg⟩
  have hbN : b ≤ cS ops.toList.length := Nat.le_trans s.bc hup
  have hlen : cS ops.toList.length ≤ cE := by
    obtain ⟨q, hq, hp⟩ := hk.some_of (run_ne _ _ _ _ _)
    exact Nat.le_trans (E.keeps _ _ _ _ _ q hq hbN hF').up (hΦ q hp)
  refine regD_any (μ0 := μ) ok hcall tr (fun x h1 h2 => s.fresh x h1 (by omega)) (fun S ca w hS hc => ?_) ops.size _ ca w (by simp) ?_ cnt_le ?_
  · obtain ⟨μ1, t2, a2, hinv, hh, ra2, hat, hsz2, lat⟩ := hc
    obtain ⟨q1, q2⟩ := tr.allS hS
    have el : t2.look = (tS ops.toList.length).look := by funext x; rw [hh x, q1 x]
    have hz := tr.szS (Nat.le_refl _)
    refine hN (aS ops.toList.length) (tS ops.toList.length) (cS ops.toList.length) F' μ1 w ca ⟨hk, by rw [← el]; exact hinv, fun x h1 h2 => ?_, hbN, hF'⟩ lat ⟨by rw [hz, ← hsz2]; exact ra2.size, fun t => ?_, ra2.defers⟩
    · have : ∀ m, m ≤ ops.toList.length → (tS m).look x = (tS 0).look x := by
        intro m
        induction m with
        | zero => intro _; rfl
        | succ m ih =>
          intro hm
          rw [tr.same (by omega), ih (by omega)]
          rintro ⟨v, F, hrc, h⟩
          have hu := tr.up (show m + 1 ≤ ops.toList.length by omega) (Nat.le_refl _)
          have hu1 := tr.up1 (show m < ops.toList.length by omega)
          rcases h with h | h
          · have := (tr.ran (by omega) hrc).2.1 x (Foot.wrote_has h); omega
          · omega
      rw [this _ (Nat.le_refl _)]
      exact s.fresh x (by omega) h2
    · rw [← q2 t, ← hat t]; exact ra2.tmps t
  · intro i o ho hs
    have : (Array.replicate ops.size false).getD i false = false := by simp [Array.getD_eq_getD_getElem?, Array.getElem?_replicate]; split <;> rfl
    have hs : (Array.replicate ops.size false).getD i false = true := hs
    rw [this] at hs; cases hs
  · have hS : ∀ i, (fun i => (Array.replicate ops.size false).getD i false) i = false := fun i => by
      show (Array.replicate ops.size false).getD i false = false
      simp [Array.getD_eq_getD_getElem?, Array.getElem?_replicate]; split <;> rfl
    exact ⟨μ, tS 0, aS 0, s.inv, fun x => (hs_none hS _ x).symm, ra, fun t => (es_none hS _ t).symm, rfl, ⟨hup, Ext.refl _⟩⟩
end
end Px
end

section
namespace Px
open Go Go.RowKit
set_option linter.unusedVariables false
set_option linter.unusedSimpArgs false
section
variable {P : Program} {tb : Tab} {gw : Nat → Bool} {B : Bs} {Φ : Res → Prop} {cE : Nat} {b : Nat} {μ : Mu} {t : T AObj} {c : Nat} {F : Foot} {w : World} {a : AAct} {ca : Act}
theorem St.want {all : List Oper} {o : Oper} {yes no : AAct → E} (s : St tb B Φ cE (wantE all a o yes no) b μ t c F w) : ∃ q, wantA all a o = some q ∧ St tb B Φ cE (if q = true then yes a else no a) b μ t c F w := by
  obtain ⟨q, h1, h2⟩ := wantE_run s.run
  exact ⟨q, h1, h2, s.inv, s.fresh, s.bc, s.ok⟩
/-- A region in the order of the text. -/
theorem regS_ok (ok : TabOk P tb) (hΦ : ∀ q, Φ q → q.2.2.1 ≤ cE) {call : FuncId → List AV → (AV → E) → E} (hcall : CallOk P tb B Φ cE call) {ops : Array Oper} {k : AAct → E} {Q : Exit → Act → World → Prop} :
    ∀ (rest : List Oper) (a : AAct) (ca : Act) (μ : Mu) (t : T AObj) (c : Nat) (F : Foot) (w : World), St tb B Φ cE (regS (opE tb gw call) ops.toList rest a k) b μ t c F w → ActRel tb μ a ca →
      (∀ a' t' c' F' μ' w' ca', St tb B Φ cE (k a') b μ' t' c' F' w' → Later μ c μ' c' → ActRel tb μ' a' ca' → Q .normal ca' w') → wpList P ops Q rest ca w := by
  intro rest
  induction rest with
  | nil => intro a ca μ t c F w s ra hN; exact hN a t c F μ w ca s (Later.refl _ _) ra
  | cons o rest ih =>
    intro a ca μ t c F w s ra hN
    simp only [regS] at s
    obtain ⟨hd, s1⟩ := s.when
    clear s
    obtain ⟨wb, hw, s⟩ := St.want s1
    cases wb with
    | false =>
      unfold wpList
      rw [if_neg (by rw [wantA_ok ra hw]; simp)]
      exact ih _ _ μ t c F w s (ra.put hd rel_undef) hN
    | true =>
      unfold wpList
      rw [if_pos (wantA_ok ra hw)]
      refine .inl ?_
      exact op_ok ok hΦ hcall s ra fun v t1 c1 F1 μ1 w1 u s1 lt r => ih _ _ μ1 t1 c1 F1 w1 s1 ((ra.mono lt.ext).put hd r) fun a' t' c' F' μ' w' ca' s' lt' ra' => hN a' t' c' F' μ' w' ca' s' (lt.trans lt') ra'
def resF (tmps : Array Value) : ResultVar → Sem Value
  | .tmp t => pure (tmps.getD t undef)
  | .cell a t => do loadVar t (← asAddr (tmps.getD a undef))
theorem loadAt_asAddr {ty : TypeId} {u r : Value} {w w1 : World} (h : (Instr.loadAt ty u).run P w = .ok r w1) : (do loadVar ty (← asAddr u) : Sem Value).run P w = .ok r w1 := by
  unfold Instr.loadAt at h
  cases u <;> first | (simp [Instr.sureAddr] at h; done) | skip
  rename_i p
  cases p with
  | none => simp [Instr.sureAddr] at h
  | some ad => simpa [Instr.sureAddr, asAddr] using h
theorem load_st (ok : TabOk P tb) {ty : TypeId} {v : AV} {u : Value} {k : AV → E} (s : St tb B Φ cE (loadE tb ty v k) b μ t c F w) (hu : Rel tb μ v u) : ∃ r u' F', (Instr.loadAt ty u).run P w = .ok u' w ∧ Rel tb μ r u' ∧ St tb B Φ cE (k r) b μ t c F' w := by
  cases v <;> first | exact (St.fail (n := 110) s).elim | skip
  · rename_i q
    cases q with
    | none => exact (St.fail (n := 110) s).elim
    | some q =>
      obtain ⟨x, off⟩ := q
      obtain ⟨p, hp, rfl⟩ := hu
      obtain ⟨hx, o, ho, F', s⟩ := St.get s
      cases o <;> first | exact (St.fail (n := 108) s).elim | skip
      rename_i bt bv
      obtain ⟨p', u, H⟩ := s.inv.obj x _ ho
      rw [H.pl] at hp; cases hp
      obtain ⟨a, ha, s⟩ := St.opt s
      obtain ⟨wv, sz, k1, k2, k3, k4, k5⟩ := partV_ok ha H.rel H.kind H.sz H.one
      refine ⟨_, wv, _, ?_, k1, s⟩
      have := run_loadVar (w := w) (P := P) ok k2 (by rw [k3, k5]) (B' := p.b) (o := p.o + off) (fun j c hj => by
        rw [k4] at hj
        have hlt := (List.getElem?_eq_some_iff.1 hj).1
        rw [List.length_take] at hlt
        rw [List.getElem?_take, if_pos (by omega), List.getElem?_drop] at hj
        have := H.cells _ c hj
        rw [← Nat.add_assoc] at this; exact this)
      simpa [Instr.loadAt, Instr.sureAddr] using this
  · rename_i ty' p
    simp only [loadE] at s
    obtain ⟨hb, s1⟩ := St.when s
    clear s
    rw [Nat.beq_eq] at hb; subst hb
    obtain ⟨a, ha, s⟩ := St.opt s1
    obtain ⟨b', o, u', rfl, h1, h2, h3, h4⟩ := hu
    refine ⟨_, u', _, ?_, (expandV_ok ha h1), s⟩
    have := run_loadVar (w := w) (P := P) ok h2 h3 (B' := b') (o := o) (fun j c hj => (s.inv.fz _ _ _ (h4 j c hj)).1)
    simpa [Instr.loadAt, Instr.sureAddr] using this
  · rename_i x ty' i
    obtain ⟨p, sz, h1, h2, h3, rfl⟩ := hu
    obtain ⟨hx, o, ho, F', s⟩ := St.get s
    cases o <;> first | exact (St.fail (n := 105) s).elim | skip
    rename_i st es
    obtain ⟨p', e, sz', H⟩ := s.inv.obj x _ ho
    rw [H.pl] at h1; cases h1
    have s := s.with (e' := bif Nat.beq ty ty' && Nat.beq e ty then ck 106 (inP es i) (Px.opt 106 (expandV tb ty (getP es i)) k) else .fail 106) (by simp only [H.el])
    obtain ⟨hb, s1⟩ := St.when s
    clear s
    rw [Bool.and_eq_true, Nat.beq_eq, Nat.beq_eq] at hb
    obtain ⟨rfl, rfl⟩ := hb
    obtain ⟨hin, s⟩ := St.ck s1
    clear s1
    obtain ⟨a, ha, s⟩ := St.opt s
    obtain ⟨_, hsz, hpos⟩ := elemA_und H.el
    rw [h2] at hsz; cases hsz
    simp only [inP, Bool.and_eq_true, decide_eq_true_eq] at hin
    have hlt : i.toNat < es.length := by omega
    have key : ∀ (ps : List PV) (o n : Nat), n < ps.length → ArrAt tb μ.fz e sz' (fun o => w.cell? ⟨p.b, o, none⟩) ps o → ∃ u, RelP tb μ.fz e (ps.getD n (.node [])) u ∧ Kind tb e u ∧ u.cells.size = sz' ∧ CellsAt (fun o => w.cell? ⟨p.b, o, none⟩) (o + n * sz') u.cells.toList := by
      intro ps
      induction ps with
      | nil => intro o n hn; simp at hn
      | cons q ps ih =>
        intro o n hn ⟨⟨u, m1, m2, m3, m4, m5⟩, m6⟩
        cases n with
        | zero => exact ⟨u, m1, m2, m3, by simpa using m5⟩
        | succ n =>
          obtain ⟨u', m⟩ := ih (o + sz') n (by simpa using hn) m6
          rw [show o + sz' + n * sz' = o + (n + 1) * sz' by rw [Nat.succ_mul]; omega] at m
          exact ⟨u', by simpa using m⟩
    obtain ⟨u', m1, m2, m3, m4⟩ := key es p.o i.toNat hlt H.cells
    refine ⟨_, u', _, ?_, (expandV_ok ha m1), s⟩
    have := run_loadVar (w := w) (P := P) ok m2 (by rw [h2, m3]) m4
    simpa [Instr.loadAt, Instr.sureAddr] using this
theorem resL_ok (ok : TabOk P tb) {tmps : Array Value} : ∀ (rs : List ResultVar) (K : List AV → E) (μ : Mu) (t : T AObj) (c : Nat) (F : Foot) (w : World), (∀ t, Rel tb μ (a.at t) (tmps.getD t undef)) → St tb B Φ cE (resL tb a rs K) b μ t c F w →
    ∃ us vs μ' t' c' F', (rs.mapM (resF tmps)).run P w = .ok us w ∧ Later μ c μ' c' ∧ RelL tb μ' vs us ∧ St tb B Φ cE (K vs) b μ' t' c' F' w
  | [], K, μ, t, c, F, w, hrel, s => ⟨[], [], μ, t, c, F, by simp, Later.refl _ _, RelL.nil, s⟩
  | .tmp x :: rs, K, μ, t, c, F, w, hrel, s => by
    obtain ⟨μ1, t1, F1, v1, l1, r1, s1⟩ := frzE_ok s (hrel x)
    obtain ⟨us, vs, μ', t', c', F', h1, h2, h3, h4⟩ := resL_ok ok rs (fun vs => K (v1 :: vs)) μ1 t1 c F1 w (fun t => (hrel t).mono l1.ext) s1
    refine ⟨tmps.getD x undef :: us, v1 :: vs, μ', t', c', F', ?_, l1.trans h2, RelL.cons (r1.mono h2.ext) h3, h4⟩
    rw [List.mapM_cons]
    simp only [resF, Sem.run_bind, Sem.run_pure, Result.andThen_ok, h1]
  | .cell x ty :: rs, K, μ, t, c, F, w, hrel, s => by
    obtain ⟨v1, u, F1, hr, r1, s1⟩ := load_st ok s (hrel x)
    have hr := loadAt_asAddr hr
    obtain ⟨us, vs, μ', t', c', F', h1, h2, h3, h4⟩ := resL_ok ok rs (fun vs => K (v1 :: vs)) μ t c F1 w hrel s1
    refine ⟨u :: us, v1 :: vs, μ', t', c', F', ?_, h2, RelL.cons (r1.mono h2.ext) h3, h4⟩
    rw [List.mapM_cons]
    have e : resF tmps (.cell x ty) = (do loadVar ty (← asAddr (tmps.getD x undef)) : Sem Value) := rfl
    rw [e]
    simp only [Sem.run_bind, Sem.run_pure] at hr ⊢
    rw [hr]
    simp only [Result.andThen_ok, h1, Sem.run_bind, Sem.run_pure]
theorem tuple_rel {vs : List AV} {us : List Value} (h : RelL tb μ vs us) : Rel tb μ (tupleOf vs) (if h : us.toArray.size = 1 then us.toArray[0] else .tuple us.toArray) := by
  cases vs with
  | nil =>
    have : us = [] := h
    subst this
    exact ⟨#[], rfl, rfl⟩
  | cons v vs =>
    cases vs with
    | nil =>
      obtain ⟨u, us', rfl, hr, hnil⟩ := h
      have hnil : us' = [] := hnil
      subst hnil
      exact hr
    | cons v2 vs =>
      have hl := h.len
      rw [dif_neg (by simp [hl])]
      exact ⟨_, rfl, by simpa using h⟩
theorem results_run {fn : Func} {tmps : Array Value} {us : List Value} {w w' : World} (h : (fn.results.toList.mapM (resF tmps)).run P w = .ok us w') : (results fn tmps).run P w = .ok (if h : us.toArray.size = 1 then us.toArray[0] else .tuple us.toArray) w' := by
  have e : results fn tmps = (do let vs ← fn.results.mapM (resF tmps); pure (if h : vs.size = 1 then vs[0] else .tuple vs)) := rfl
  rw [e, Array.mapM_eq_mapM_toList]
  simp only [Sem.run_bind, Sem.run_map, h, Result.andThen_ok, Sem.run_pure]
theorem act0_ok {args : List AV} {us : List Value} (h : RelL tb μ args us) (n : Nat) : ActRel tb μ (act0 args n) { tmps := us.toArray ++ Array.replicate (n - us.toArray.size) undef, defers := [] } := by
  have hl := h.len
  refine ⟨?_, fun t => ?_, rfl⟩
  · show (us.toArray ++ Array.replicate (n - us.toArray.size) undef).size = max args.length n
    simp only [Array.size_append, List.size_toArray, Array.size_replicate]
    omega
  · rw [at_eq, Array.getD_eq_getD_getElem?]
    show Rel tb μ (((T.ofL args 0 .leaf).look t).getD undA) _
    rw [T.look_ofL0, Array.getElem?_append]
    cases e : args[t]? with
    | some x =>
      obtain ⟨v, hv, hr⟩ := h.get t x e
      have hlt : t < us.length := (List.getElem?_eq_some_iff.1 hv).1
      rw [if_pos (by simpa using hlt)]
      simpa [hv] using hr
    | none => exact trivial
end
end Px
end

section
namespace Px
open Go Go.RowKit
set_option linter.unusedVariables false
set_option linter.unusedSimpArgs false
/-- A plain run that is gone on with is a plain run. -/
theorem runK_run (e : E) : ∀ (t : T AObj) (c b : Nat) (F : Foot) (K : AV → T AObj → Nat → Foot → Ans) (r : PV × List PV), e.runK t c b F K = some r → ∃ q, e.run t c b F = [some q] ∧ K q.1 q.2.1 q.2.2.1 q.2.2.2 = some r := by
  induction e with
  | pure v => intro t c b F K r h; exact ⟨_, run_pure .., h⟩
  | fail n => intro t c b F K r h; exact absurd (show (none : Ans) = some r from h) (by simp)
  | get x k ih =>
    intro t c b F K r h
    rw [run_get]
    have h : @Bool.rec (fun _ => Ans) none (@Option.rec AObj (fun _ => Ans) none (fun o => (k o).runK t c b (F.touch b x false) K) (t.look x)) (Nat.blt x c) = some r := h
    cases hb : Nat.blt x c with
    | false => rw [hb] at h; exact absurd (show (none : Ans) = some r from h) (by simp)
    | true =>
      rw [hb] at h
      have h : @Option.rec AObj (fun _ => Ans) none (fun o => (k o).runK t c b (F.touch b x false) K) (t.look x) = some r := h
      rw [if_pos (by rwa [Nat.blt_eq] at hb)]
      cases ho : t.look x with
      | none => rw [ho] at h; exact absurd (show (none : Ans) = some r from h) (by simp)
      | some o => rw [ho] at h; exact ih o t c b _ K r h
  | set x o k ih =>
    intro t c b F K r h
    rw [run_set]
    have h : @Bool.rec (fun _ => Ans) none (k.runK (t.put o x) c b (F.touch b x true) K) (Nat.blt x c) = some r := h
    cases hb : Nat.blt x c with
    | false => rw [hb] at h; exact absurd (show (none : Ans) = some r from h) (by simp)
    | true =>
      rw [hb] at h
      rw [if_pos (by rwa [Nat.blt_eq] at hb)]
      exact ih _ c b _ K r h
  | new o k ih => intro t c b F K r h; rw [run_new]; exact ih c _ _ b F K r h
  | choose n k ih => intro t c b F K r h; exact absurd (show (none : Ans) = some r from h) (by simp)
  | ite q x y ihx ihy =>
    intro t c b F K r h
    rw [run_ite]
    cases q with
    | true => exact ihx t c b F K r h
    | false => exact ihy t c b F K r h
  | scope e k ihe ihk =>
    intro t c b F K r h
    obtain ⟨q, e1, h1⟩ := ihe t c c Foot.empty (fun v h1 c1 F1 => (k v c c1 F1 false).runK h1 c1 b (F.merge b F1) K) r h
    obtain ⟨q2, e2, h2⟩ := ihk q.1 c q.2.2.1 q.2.2.2 false q.2.1 q.2.2.1 b _ K r h1
    refine ⟨q2, ?_, h2⟩
    rw [run_scope, e1, eachOf_some, eachOf_nil, List.append_nil]
    exact e2
end Px
end

section
namespace Px
open Go Go.RowKit
set_option linter.unusedVariables false
set_option linter.unusedSimpArgs false
def nonVec : AObj → Bool
  | .vec _ _ => false
  | _ => true
/-- Names, each once, and what they lead to. -/
structure Seen (h : Hp) (seen : List Nat) (objs : List AObj) : Prop where
  len : objs.length = seen.length
  nd : seen.Nodup
  look : ∀ (i x : Nat), seen[i]? = some x → h x = objs[i]?
/-- What is told of the memory that is handed over, in names of its own. -/
def subMu (seen : List Nat) (objs : List AObj) (μ : Mu) : Mu where
  pl := fun i => match objs[i]?, seen[i]? with
    | some o, some x => if nonVec o = true then μ.pl x else none
    | _, _ => none
  sl := fun i n => match objs[i]?, seen[i]? with
    | some (.vec _ ver), some x => if n = 0 then μ.sl x ver else none
    | _, _ => none
  fz := μ.fz
def subBs (μ : Mu) (h : Hp) (seen : List Nat) (w : World) : Bs := ⟨fun b => ∃ x, x ∈ seen ∧ Owns μ h x b, μ.fz, w⟩
theorem idxN_get : ∀ {seen : List Nat} {x : Nat}, x ∈ seen → seen[idxN x seen]? = some x
  | [], x, h => by cases h
  | y :: l, x, h => by
    unfold idxN
    cases e : Nat.beq x y with
    | true => rw [Nat.beq_eq] at e; subst e; rfl
    | false =>
      rcases List.mem_cons.1 h with h | h
      · subst h; rw [show Nat.beq x x = true by rw [Nat.beq_eq]] at e; cases e
      · simp only [cond_false, List.getElem?_cons_succ]; exact idxN_get h
theorem curOf_get : ∀ {seen : List Nat} {objs : List AObj} {x ver : Nat}, curOf seen objs x = some ver → seen[idxN x seen]? = some x ∧ ∃ t, objs[idxN x seen]? = some (.vec t ver)
  | [], objs, x, ver, h => by cases objs <;> cases h
  | y :: l, [], x, ver, h => by cases h
  | y :: l, o :: os, x, ver, h => by
    simp only [curOf] at h
    unfold idxN
    cases e : Nat.beq x y with
    | true =>
      rw [e] at h
      rw [Nat.beq_eq] at e; subst e
      cases o <;> first | (cases h; done) | skip
      rename_i t v
      simp only [cond_true, Option.some.injEq] at h
      subst h
      exact ⟨rfl, t, rfl⟩
    | false =>
      rw [e] at h
      simp only [cond_false, List.getElem?_cons_succ]
      exact curOf_get h
theorem isPl_get : ∀ {seen : List Nat} {objs : List AObj} {x : Nat}, isPl seen objs x = true → seen[idxN x seen]? = some x ∧ ∃ o, objs[idxN x seen]? = some o ∧ nonVec o = true
  | [], objs, x, h => by cases objs <;> cases h
  | y :: l, [], x, h => by cases h
  | y :: l, o :: os, x, h => by
    simp only [isPl] at h
    unfold idxN
    cases e : Nat.beq x y with
    | true =>
      rw [e] at h
      rw [Nat.beq_eq] at e; subst e
      refine ⟨rfl, o, rfl, ?_⟩
      cases o <;> first | (cases h; done) | rfl
    | false =>
      rw [e] at h
      simp only [cond_false, List.getElem?_cons_succ]
      exact isPl_get h
section
variable {tb : Tab} {B : Bs} {w : World} {μ : Mu} {h : Hp} {seen : List Nat} {objs : List AObj}
theorem subMu_pl {x : Nat} (e : isPl seen objs x = true) : (subMu seen objs μ).pl (idxN x seen) = μ.pl x := by
  obtain ⟨h1, o, h2, h3⟩ := isPl_get e
  simp only [subMu, h1, h2, h3, if_true]
theorem subMu_sl {x ver : Nat} (e : curOf seen objs x = some ver) : (subMu seen objs μ).sl (idxN x seen) 0 = μ.sl x ver := by
  obtain ⟨h1, t, h2⟩ := curOf_get e
  simp only [subMu, h1, h2, if_true]
mutual
theorem packA_ok : ∀ (a : AV) (v : Value), Rel tb μ a v → Rel tb (subMu seen objs μ) (packA seen objs a) v
  | .bool _, _, h => h
  | .int _ _, _, h => h
  | .str _, _, h => h
  | .ptr none, _, h => h
  | .ptr (some q), v, ⟨p, hp, e⟩ => by
    unfold packA
    cases e1 : isPl seen objs q.1 with
    | false => trivial
    | true => exact ⟨p, by rw [subMu_pl e1]; exact hp, e⟩
  | .glob _ _, _, h => h
  | .nils, _, h => h
  | .pv t p, v, h => h
  | .fp t p, v, h => h
  | .vs x ver t es, v, ⟨h1, h2, h3⟩ => by
    unfold packA
    cases e1 : curOf seen objs x with
    | none => exact h1
    | some cur =>
      simp only
      cases e2 : Nat.beq cur ver with
      | false => exact h1
      | true =>
        rw [Nat.beq_eq] at e2; subst e2
        exact ⟨h1, by rw [subMu_sl e1]; exact h2, h3⟩
  | .ar x t, v, ⟨p, n, ad, e, sz, h1, h2⟩ => by
    unfold packA
    cases e1 : isPl seen objs x with
    | false => trivial
    | true => exact ⟨p, n, ad, e, sz, by rw [subMu_pl e1]; exact h1, h2⟩
  | .ap x t i, v, ⟨p, sz, h1, h2⟩ => by
    unfold packA
    cases e1 : isPl seen objs x with
    | false => trivial
    | true => exact ⟨p, sz, by rw [subMu_pl e1]; exact h1, h2⟩
  | .map none, _, h => h
  | .map (some x), v, h => by trivial
  | .func fn f c, v, ⟨f', c', e, h1, h2⟩ => ⟨f', c', e, packL_ok f _ h1, packL_ok c _ h2⟩
  | .nilFunc, _, h => h
  | .iface t a, v, ⟨v', e, h⟩ => ⟨v', e, packA_ok a v' h⟩
  | .nilIface, _, h => h
  | .agg cs, v, ⟨xs, e, h⟩ => ⟨xs, e, packL_ok cs _ h⟩
  | .tuple cs, v, ⟨xs, e, h⟩ => ⟨xs, e, packL_ok cs _ h⟩
  | .dead, _, h => h
theorem packL_ok : ∀ (l : List AV) (vs : List Value), RelL tb μ l vs → RelL tb (subMu seen objs μ) (packL seen objs l) vs
  | [], _, h => h
  | a :: as, vs, ⟨v, vs', e, h1, h2⟩ => ⟨v, vs', e, packA_ok a v h1, packL_ok as vs' h2⟩
end
theorem wholeV_ok {t : TypeId} {v : AV} {u : Value} (hr : Rel tb μ v u) : Rel tb μ (wholeV tb t v) u := by
  unfold wholeV
  cases noVs v with
  | false => exact hr
  | true =>
    simp only [cond_true]
    cases e : norm tb 20 t v with
    | none => exact hr
    | some p =>
      simp only
      cases e2 : expandV tb t p with
      | none => exact hr
      | some a => exact expandV_ok e2 (norm_ok e hr)
theorem sub_obj {x i : Nat} {o : AObj} (hs : seen[i]? = some x) (ho : objs[i]? = some o) (H : ObjAt tb μ w x o) : ObjAt tb (subMu seen objs μ) w i (packO tb seen objs o) := by
  have hpl : nonVec o = true → (subMu seen objs μ).pl i = μ.pl x := fun hn => by simp only [subMu, hs, ho, hn, if_true]
  cases o with
  | box t v =>
    obtain ⟨p, u, H⟩ := H
    exact ⟨p, u, (hpl rfl).trans H.pl, wholeV_ok (packA_ok _ _ H.rel), H.kind, H.sz, H.r, H.one, H.cells, H.free⟩
  | vec t ver =>
    obtain ⟨A, n, c, e, sz, H⟩ := H
    exact ⟨A, n, c, e, sz, by simp only [subMu, hs, ho, if_true]; exact H.sl, H.el, H.le, H.nil, H.free⟩
  | arr t es =>
    obtain ⟨p, e, sz, H⟩ := H
    exact ⟨p, e, sz, (hpl rfl).trans H.pl, H.el, H.r, H.cells, H.free⟩
  | map es ck => exact H
  | dead => trivial
theorem packO_kind {o : AObj} : nonVec (packO tb seen objs o) = nonVec o := by cases o <;> rfl
theorem sub_get (S : Seen h seen objs) {i : Nat} {o' : AObj} (e : (objs.map (packO tb seen objs))[i]? = some o') : ∃ x o, seen[i]? = some x ∧ objs[i]? = some o ∧ h x = some o ∧ o' = packO tb seen objs o := by
  rw [List.getElem?_map] at e
  cases ho : objs[i]? with
  | none => rw [ho] at e; cases e
  | some o =>
    rw [ho] at e
    simp only [Option.map_some, Option.some.injEq] at e
    have hi := (List.getElem?_eq_some_iff.1 ho).1
    have hs : seen[i]? = some (seen[i]'(by rw [← S.len]; exact hi)) := List.getElem?_eq_getElem _
    exact ⟨_, o, hs, rfl, by rw [S.look i _ hs, ho], e.symm⟩
theorem sub_owns (S : Seen h seen objs) {i b : Nat} (ho : Owns (subMu seen objs μ) (fun i => (objs.map (packO tb seen objs))[i]?) i b) : ∃ x, seen[i]? = some x ∧ Owns μ h x b := by
  unfold Owns at ho
  simp only at ho
  cases e : (objs.map (packO tb seen objs))[i]? with
  | none => rw [e] at ho; exact ho.elim
  | some o' =>
    obtain ⟨x, o, hs, hob, hh, rfl⟩ := sub_get S e
    refine ⟨x, hs, ?_⟩
    rw [e] at ho
    unfold Owns
    rw [hh]
    cases o with
    | box t v =>
      obtain ⟨p, hp, hb⟩ := ho
      have : (subMu seen objs μ).pl i = μ.pl x := by simp only [subMu, hs, hob, nonVec, if_true]
      exact ⟨p, this ▸ hp, hb⟩
    | arr t es =>
      obtain ⟨p, hp, hb⟩ := ho
      have : (subMu seen objs μ).pl i = μ.pl x := by simp only [subMu, hs, hob, nonVec, if_true]
      exact ⟨p, this ▸ hp, hb⟩
    | vec t ver =>
      obtain ⟨o, n, c, hsl, hlt⟩ := ho
      have : (subMu seen objs μ).sl i 0 = μ.sl x ver := by simp only [subMu, hs, hob, if_true]
      exact ⟨o, n, c, this ▸ hsl, hlt⟩
    | map _ _ => exact ho
    | dead => exact ho
/-- What is handed over is a memory of its own. -/
theorem Inv.sub (I : Inv tb B μ h w) (S : Seen h seen objs) : Inv tb (subBs μ h seen w) (subMu seen objs μ) (fun i => (objs.map (packO tb seen objs))[i]?) w := by
  refine ⟨Fr.refl _ _, I.fz, fun b o v hv => .inl hv, fun i b hb => ?_, fun i p hp => ?_, fun i n v hv => ?_, fun i o ho => ?_, fun i j b hij hi hj => ?_⟩
  · obtain ⟨x, hs, hx⟩ := sub_owns S hb
    exact ⟨(I.base x b hx).1, .inl ⟨x, List.mem_of_getElem? hs, hx⟩⟩
  · intro hn
    rw [List.getElem?_map] at hn
    cases ho : objs[i]? with
    | none => simp only [subMu, ho] at hp; cases hp
    | some o => rw [ho] at hn; cases hn
  · cases ho : objs[i]? with
    | none => simp only [subMu, ho] at hv; cases hv
    | some o =>
      cases hs : seen[i]? with
      | none => simp only [subMu, ho, hs] at hv; cases o <;> cases hv
      | some x =>
        cases o <;> first | (simp only [subMu, ho, hs] at hv; cases hv; done) | skip
        rename_i t ver
        simp only [subMu, ho, hs] at hv
        by_cases hn : n = 0
        · exact ⟨t, 0, by simp only [List.getElem?_map, ho]; rfl, by omega⟩
        · rw [if_neg hn] at hv; cases hv
  · obtain ⟨x, o', hs, hob, hh, rfl⟩ := sub_get S ho
    exact sub_obj hs hob (I.obj x o' hh)
  · obtain ⟨x, hs, hx⟩ := sub_owns S hi
    obtain ⟨y, hs2, hy⟩ := sub_owns S hj
    refine I.apart x y b (fun e => hij ?_) hx hy
    subst e
    have h1 := (List.getElem?_eq_some_iff.1 hs).1
    exact (List.getElem?_inj h1 S.nd).1 (hs.trans hs2.symm)
end
end Px
end

section
namespace Px
open Go Go.RowKit
set_option linter.unusedVariables false
set_option linter.unusedSimpArgs false
section
variable {tb : Tab} {w : World} {μ : Mu}
theorem relP_agg {t : TypeId} {p : PV} {u : Value} (h : isAggA tb t = some true) (hr : RelP tb μ.fz t p u) : ∃ xs, u = .agg xs := by
  unfold isAggA at h
  cases p with
  | int n => obtain ⟨k, e, _⟩ := hr; rw [e] at h; cases h
  | bool b => obtain ⟨e, _⟩ := hr; rw [e] at h; cases h
  | str s => obtain ⟨e, _⟩ := hr; rw [e] at h; cases h
  | node ps =>
    rcases hr with ⟨fs, xs, _, e, _⟩ | ⟨n, e, xs, sz, _, _, e2, _⟩ | ⟨e, A, c, e2, _⟩
    · exact ⟨_, e⟩
    · exact ⟨_, e2⟩
    · rw [e2] at h; cases h
theorem aggV_ok {a : AV} {cs : List AV} {u : Value} (h : aggV tb a = some cs) (hr : Rel tb μ a u) : ∃ xs, u = .agg xs ∧ RelL tb μ cs xs.toList := by
  unfold aggV at h
  cases a <;> first | (cases h; done) | skip
  · rename_i t p
    simp only at h
    cases e : isAggA tb t with
    | none => rw [e] at h; cases h
    | some q =>
      rw [e] at h
      cases q with
      | false => cases h
      | true =>
        obtain ⟨xs, rfl⟩ := relP_agg e hr
        exact ⟨xs, rfl, expandC_ok h hr⟩
  · simp only [Option.some.injEq] at h; subst h; exact hr
mutual
theorem conform_ok : ∀ (x a : AV) (l r : List PV) (u : Value), conform tb x a = some l → Rel tb μ a u → Rel tb μ (refill x (l ++ r)).1 u ∧ (refill x (l ++ r)).2 = r
  | .dead, a, l, r, u, h, hr => by simp only [conform, Option.some.injEq] at h; subst h; exact ⟨trivial, rfl⟩
  | .bool _, a, l, r, u, h, hr => by
    cases a <;> simp only [conform] at h <;> first | (cases h; done) | skip
    simp only [Option.some.injEq] at h; subst h; exact ⟨hr, rfl⟩
  | .int k _, a, l, r, u, h, hr => by
    cases a <;> simp only [conform] at h <;> first | (cases h; done) | skip
    rename_i k' n
    by_cases e : k = k'
    · simp only [decide_eq_true e, cond_true, Option.some.injEq] at h; subst h; subst e; exact ⟨hr, rfl⟩
    · simp only [decide_eq_false e, cond_false] at h; cases h
  | .str _, a, l, r, u, h, hr => by
    cases a <;> simp only [conform] at h <;> first | (cases h; done) | skip
    simp only [Option.some.injEq] at h; subst h; exact ⟨hr, rfl⟩
  | .pv t p, a, l, r, u, h, hr => by
    simp only [conform] at h
    cases e : norm tb 20 t a with
    | none => rw [e] at h; cases h
    | some q => rw [e] at h; simp only [Option.some.injEq] at h; subst h; exact ⟨norm_ok e hr, rfl⟩
  | .fp t _, a, l, r, u, h, hr => by
    cases a <;> simp only [conform] at h <;> first | (cases h; done) | skip
    rename_i t' p
    cases e : Nat.beq t t' with
    | false => rw [e] at h; cases h
    | true => rw [e] at h; rw [Nat.beq_eq] at e; subst e; simp only [cond_true, Option.some.injEq] at h; subst h; exact ⟨hr, rfl⟩
  | .vs x ver t _, a, l, r, u, h, hr => by
    cases a <;> simp only [conform] at h <;> first | (cases h; done) | skip
    rename_i x' ver' t' es
    cases e : Nat.beq x x' && Nat.beq ver ver' && Nat.beq t t' with
    | false => rw [e] at h; cases h
    | true =>
      rw [e] at h
      rw [Bool.and_eq_true, Bool.and_eq_true, Nat.beq_eq, Nat.beq_eq, Nat.beq_eq] at e
      obtain ⟨⟨rfl, rfl⟩, rfl⟩ := e
      simp only [cond_true, Option.some.injEq] at h; subst h; exact ⟨hr, rfl⟩
  | .nils, a, l, r, u, h, hr => by
    cases a <;> simp only [conform] at h <;> first | (cases h; done) | skip
    simp only [Option.some.injEq] at h; subst h; exact ⟨hr, rfl⟩
  | .nilFunc, a, l, r, u, h, hr => by
    cases a <;> simp only [conform] at h <;> first | (cases h; done) | skip
    simp only [Option.some.injEq] at h; subst h; exact ⟨hr, rfl⟩
  | .nilIface, a, l, r, u, h, hr => by
    cases a <;> simp only [conform] at h <;> first | (cases h; done) | skip
    simp only [Option.some.injEq] at h; subst h; exact ⟨hr, rfl⟩
  | .ptr none, a, l, r, u, h, hr => by
    cases a <;> simp only [conform] at h <;> first | (cases h; done) | skip
    rename_i q
    cases q <;> simp only at h <;> first | (cases h; done) | skip
    simp only [Option.some.injEq] at h; subst h; exact ⟨hr, rfl⟩
  | .ptr (some q), a, l, r, u, h, hr => by
    cases a <;> simp only [conform] at h <;> first | (cases h; done) | skip
    rename_i q'
    cases q' <;> simp only at h <;> first | (cases h; done) | skip
    rename_i q'
    cases e : Nat.beq q.1 q'.1 && Nat.beq q.2 q'.2 with
    | false => rw [e] at h; cases h
    | true =>
      rw [e] at h
      rw [Bool.and_eq_true, Nat.beq_eq, Nat.beq_eq] at e
      have : q = q' := Prod.ext e.1 e.2
      subst this
      simp only [cond_true, Option.some.injEq] at h; subst h; exact ⟨hr, rfl⟩
  | .glob g o, a, l, r, u, h, hr => by
    cases a <;> simp only [conform] at h <;> first | (cases h; done) | skip
    rename_i g' o'
    cases e : Nat.beq g g' && Nat.beq o o' with
    | false => rw [e] at h; cases h
    | true =>
      rw [e] at h
      rw [Bool.and_eq_true, Nat.beq_eq, Nat.beq_eq] at e
      obtain ⟨rfl, rfl⟩ := e
      simp only [cond_true, Option.some.injEq] at h; subst h; exact ⟨hr, rfl⟩
  | .ar x t, a, l, r, u, h, hr => by
    cases a <;> simp only [conform] at h <;> first | (cases h; done) | skip
    rename_i x' t'
    cases e : Nat.beq x x' && Nat.beq t t' with
    | false => rw [e] at h; cases h
    | true =>
      rw [e] at h
      rw [Bool.and_eq_true, Nat.beq_eq, Nat.beq_eq] at e
      obtain ⟨rfl, rfl⟩ := e
      simp only [cond_true, Option.some.injEq] at h; subst h; exact ⟨hr, rfl⟩
  | .ap x t _, a, l, r, u, h, hr => by
    cases a <;> simp only [conform] at h <;> first | (cases h; done) | skip
    rename_i x' t' i
    cases e : Nat.beq x x' && Nat.beq t t' with
    | false => rw [e] at h; cases h
    | true =>
      rw [e] at h
      rw [Bool.and_eq_true, Nat.beq_eq, Nat.beq_eq] at e
      obtain ⟨rfl, rfl⟩ := e
      simp only [cond_true, Option.some.injEq] at h; subst h; exact ⟨hr, rfl⟩
  | .func fn x m, a, l, r, u, h, hr => by
    cases fn <;> first | (simp only [conform] at h; cases h; done) | skip
    rename_i f
    cases a <;> simp only [conform] at h <;> first | (cases h; done) | skip
    rename_i fn' x' m'
    cases fn' <;> simp only at h <;> first | (cases h; done) | skip
    rename_i f'
    cases e : Nat.beq f f' with
    | false => rw [e] at h; cases h
    | true =>
      rw [e] at h
      rw [Nat.beq_eq] at e; subst e
      simp only [cond_true] at h
      cases e1 : conform.conformL tb x x' with
      | none => rw [e1] at h; cases h
      | some l1 =>
        cases e2 : conform.conformL tb m m' with
        | none => rw [e1, e2] at h; cases h
        | some l2 =>
          rw [e1, e2] at h
          simp only [Option.some.injEq] at h; subst h
          obtain ⟨f2, c2, e3, r1, r2⟩ := hr
          obtain ⟨p1, p2⟩ := conformL_ok x x' l1 (l2 ++ r) _ e1 r1
          obtain ⟨p3, p4⟩ := conformL_ok m m' l2 r _ e2 r2
          simp only [refill, List.append_assoc, p2]
          exact ⟨⟨f2, c2, e3, p1, p3⟩, p4⟩
  | .iface t v, a, l, r, u, h, hr => by
    cases a <;> simp only [conform] at h <;> first | (cases h; done) | skip
    rename_i t' v'
    cases e : Nat.beq t t' with
    | false => rw [e] at h; cases h
    | true =>
      rw [e] at h
      rw [Nat.beq_eq] at e; subst e
      simp only [cond_true] at h
      obtain ⟨u', e, hr⟩ := hr
      obtain ⟨p1, p2⟩ := conform_ok v v' l r u' h hr
      simp only [refill]
      exact ⟨⟨u', e, p1⟩, p2⟩
  | .agg cs, a, l, r, u, h, hr => by
    simp only [conform] at h
    cases e : aggV tb a with
    | none => rw [e] at h; cases h
    | some cs' =>
      rw [e] at h
      obtain ⟨xs, rfl, hl⟩ := aggV_ok e hr
      obtain ⟨p1, p2⟩ := conformL_ok cs cs' l r _ h hl
      simp only [refill]
      exact ⟨⟨xs, rfl, p1⟩, p2⟩
  | .tuple cs, a, l, r, u, h, hr => by
    cases a <;> simp only [conform] at h <;> first | (cases h; done) | skip
    obtain ⟨xs, e, hl⟩ := hr
    obtain ⟨p1, p2⟩ := conformL_ok cs _ l r _ h hl
    simp only [refill]
    exact ⟨⟨xs, e, p1⟩, p2⟩
  | .map _, a, l, r, u, h, hr => by simp only [conform] at h; cases h
theorem conformL_ok : ∀ (xs as : List AV) (l r : List PV) (us : List Value), conform.conformL tb xs as = some l → RelL tb μ as us → RelL tb μ (refillL xs (l ++ r)).1 us ∧ (refillL xs (l ++ r)).2 = r
  | [], [], l, r, us, h, hr => by simp only [conform.conformL, Option.some.injEq] at h; subst h; exact ⟨hr, rfl⟩
  | [], _ :: _, l, r, us, h, hr => by simp only [conform.conformL] at h; cases h
  | _ :: _, [], l, r, us, h, hr => by simp only [conform.conformL] at h; cases h
  | x :: xs, a :: as, l, r, us, h, hr => by
    simp only [conform.conformL] at h
    cases e1 : conform tb x a with
    | none => rw [e1] at h; cases h
    | some l1 =>
      cases e2 : conform.conformL tb xs as with
      | none => rw [e1, e2] at h; cases h
      | some l2 =>
        rw [e1, e2] at h
        simp only [Option.some.injEq] at h; subst h
        obtain ⟨v, vs, rfl, r1, r2⟩ := hr
        obtain ⟨p1, p2⟩ := conform_ok x a l1 (l2 ++ r) _ e1 r1
        obtain ⟨p3, p4⟩ := conformL_ok xs as l2 r _ e2 r2
        simp only [refillL, List.append_assoc, p2]
        exact ⟨⟨v, vs, rfl, p1, p3⟩, p4⟩
end
/-- What an object owns lies where its kind tells. -/
def kindO : AObj → Nat × Nat
  | .box _ _ => (0, 0)
  | .arr _ _ => (0, 0)
  | .vec _ ver => (1, ver)
  | .map _ _ => (2, 0)
  | .dead => (2, 0)
def typO : AObj → Option TypeId
  | .vec t _ => some t
  | _ => none
theorem owns_kind {h h' : Hp} {x b : Nat} {o o' : AObj} (e : h x = some o) (e' : h' x = some o') (k : kindO o = kindO o') : Owns μ h x b ↔ Owns μ h' x b := by
  unfold Owns
  rw [e, e']
  cases o <;> cases o' <;> simp only [kindO, Prod.mk.injEq] at k <;> first
    | exact Iff.rfl
    | (exact absurd k.1 (by decide))
    | (obtain ⟨_, rfl⟩ := k; exact Iff.rfl)
theorem conformO_ok {o o' : AObj} {l : List PV} {x : Nat} (h : conformO tb o o' = some l) (r : List PV) (H : ObjAt tb μ w x o') : (refillO o (l ++ r)).2 = r ∧ ObjAt tb μ w x (refillO o (l ++ r)).1 ∧ kindO (refillO o (l ++ r)).1 = kindO o' ∧ kindO o = kindO o' := by
  cases o with
  | box t v =>
    cases o' <;> simp only [conformO] at h <;> first | (cases h; done) | skip
    rename_i t' v'
    cases e : Nat.beq t t' with
    | false => rw [e] at h; cases h
    | true =>
      rw [e] at h; rw [Nat.beq_eq] at e; subst e
      simp only [cond_true] at h
      obtain ⟨p, u, H⟩ := H
      obtain ⟨h1, h2⟩ := conform_ok v v' l r u h H.rel
      exact ⟨h2, ⟨p, u, H.pl, h1, H.kind, H.sz, H.r, H.one, H.cells, H.free⟩, rfl, rfl⟩
  | vec t ver =>
    cases o' <;> simp only [conformO] at h <;> first | (cases h; done) | skip
    rename_i t' ver'
    cases e : Nat.beq t t' && Nat.beq ver ver' with
    | false => rw [e] at h; cases h
    | true =>
      rw [e] at h
      rw [Bool.and_eq_true, Nat.beq_eq, Nat.beq_eq] at e
      obtain ⟨rfl, rfl⟩ := e
      simp only [cond_true, Option.some.injEq] at h; subst h
      exact ⟨rfl, H, rfl, rfl⟩
  | arr t es =>
    cases o' <;> simp only [conformO] at h <;> first | (cases h; done) | skip
    rename_i t' es'
    cases e : Nat.beq t t' with
    | false => rw [e] at h; cases h
    | true =>
      rw [e] at h; rw [Nat.beq_eq] at e; subst e
      simp only [cond_true, Option.some.injEq] at h; subst h
      exact ⟨rfl, H, rfl, rfl⟩
  | map a b => simp only [conformO] at h; cases h
  | dead =>
    cases o' <;> simp only [conformO] at h <;> first | (cases h; done) | skip
    simp only [Option.some.injEq] at h; subst h
    exact ⟨rfl, H, rfl, rfl⟩
theorem conformOs_ok : ∀ {os os' : List AObj} {l : List PV} (n : Nat) (r : List PV), conformOs tb os os' = some l → (∀ i o', os'[i]? = some o' → ObjAt tb μ w (n + i) o') →
    (refillOs os (l ++ r)).2 = r ∧ (refillOs os (l ++ r)).1.length = os'.length ∧ os.length = os'.length ∧ ∀ (i : Nat) (ri : AObj), (refillOs os (l ++ r)).1[i]? = some ri → ObjAt tb μ w (n + i) ri ∧ ∃ o o', os[i]? = some o ∧ os'[i]? = some o' ∧ kindO ri = kindO o' ∧ kindO o = kindO o'
  | [], [], l, n, r, h, H => by simp only [conformOs, Option.some.injEq] at h; subst h; exact ⟨rfl, rfl, rfl, fun i ri h => by cases h⟩
  | [], _ :: _, l, n, r, h, H => by simp only [conformOs] at h; cases h
  | _ :: _, [], l, n, r, h, H => by simp only [conformOs] at h; cases h
  | o :: os, o' :: os', l, n, r, h, H => by
    simp only [conformOs] at h
    cases e1 : conformO tb o o' with
    | none => rw [e1] at h; cases h
    | some l1 =>
      cases e2 : conformOs tb os os' with
      | none => rw [e1, e2] at h; cases h
      | some l2 =>
        rw [e1, e2] at h
        simp only [Option.some.injEq] at h; subst h
        obtain ⟨p1, p2, p3, p4⟩ := conformO_ok (x := n + 0) e1 (l2 ++ r) (H 0 o' rfl)
        obtain ⟨q1, q2, q3, q4⟩ := conformOs_ok (n + 1) r e2 (fun i o' hi => by rw [show n + 1 + i = n + (i + 1) by omega]; exact H (i + 1) o' hi)
        simp only [refillOs, List.append_assoc, p1]
        refine ⟨q1, by simp only [List.length_cons, q2], by simp only [List.length_cons, q3], fun i ri hi => ?_⟩
        cases i with
        | zero => simp only [List.getElem?_cons_zero, Option.some.injEq] at hi; subst hi; exact ⟨p2, o, o', rfl, rfl, p3, p4⟩
        | succ i =>
          rw [List.getElem?_cons_succ] at hi
          obtain ⟨m1, m2⟩ := q4 i ri hi
          exact ⟨by rw [show n + (i + 1) = n + 1 + i by omega]; exact m1, m2⟩
end
end Px
end

section
namespace Px
open Go Go.RowKit
set_option linter.unusedVariables false
set_option linter.unusedSimpArgs false
theorem memN_mem : ∀ {l : List Nat} {x : Nat}, memN x l = false → x ∉ l
  | [], x, _, h => by cases h
  | y :: l, x, h, hm => by
    simp only [memN, Bool.or_eq_false_iff] at h
    rcases List.mem_cons.1 hm with e | e
    · rw [e, show Nat.beq y y = true by rw [Nat.beq_eq]] at h; exact absurd h.1 (by simp)
    · exact memN_mem h.2 e
section
variable {tb : Tab} {B : Bs} {Φ : Res → Prop} {cE : Nat} {b : Nat} {μ : Mu} {t : T AObj} {c : Nat} {F : Foot} {w : World}
theorem reachE_ok : ∀ {n : Nat} {queue seen : List Nat} {objs : List AObj} {k : List Nat → List AObj → E} {F : Foot}, St tb B Φ cE (reachE n queue seen objs k) b μ t c F w → Seen t.look seen objs → (∀ x ∈ seen, x < c) →
    ∃ seen' objs' F', Seen t.look seen' objs' ∧ (∀ x ∈ seen', x < c) ∧ St tb B Φ cE (k seen' objs') b μ t c F' w
  | 0, queue, seen, objs, k, F, s, S, hc => (St.fail (n := 700) s).elim
  | n + 1, queue, seen, objs, k, F, s, S, hc => by
    cases queue with
    | nil => exact ⟨seen, objs, F, S, hc, s⟩
    | cons x q =>
      have s : St tb B Φ cE (bif memN x seen then reachE n q seen objs k else .get x fun o => reachE n (q ++ namesO o) (seen ++ [x]) (objs ++ [o]) k) b μ t c F w := s
      cases e : memN x seen with
      | true => rw [e] at s; exact reachE_ok s S hc
      | false =>
        rw [e] at s
        obtain ⟨hx, o, ho, F', s⟩ := St.get s
        refine reachE_ok s ⟨by simp [S.len], ?_, fun i y hi => ?_⟩ (fun y hy => ?_)
        · rw [List.nodup_append]
          refine ⟨S.nd, by simp, fun a ha b' hb => ?_⟩
          rw [List.mem_singleton] at hb
          subst hb
          exact fun e2 => memN_mem e (e2 ▸ ha)
        · by_cases h : i < seen.length
          · rw [List.getElem?_append_left h] at hi
            rw [S.look i y hi, List.getElem?_append_left (by rw [S.len]; exact h)]
          · rw [List.getElem?_append_right (by omega)] at hi
            rw [List.getElem?_append_right (by rw [S.len]; omega), S.len]
            have hz : i - seen.length = 0 := by
              rcases Nat.eq_zero_or_pos (i - seen.length) with h0 | h0
              · exact h0
              · rw [List.getElem?_eq_none (by simp; omega)] at hi; cases hi
            rw [hz] at hi ⊢
            simp only [List.getElem?_cons_zero, Option.some.injEq] at hi ⊢
            subst hi; exact ho
        · rcases List.mem_append.1 hy with h | h
          · exact hc y h
          · rw [List.mem_singleton] at h; subst h; exact hx
theorem seen_nil (h : Hp) : Seen h [] [] := ⟨rfl, List.nodup_nil, fun i x h => by cases h⟩
/-- What was handed over, as it came back. -/
structure BackTo (tb : Tab) (B : Bs) (μs : Mu) (co rs : List AObj) (μ3 : Mu) (w' : World) : Prop where
  inv : Inv tb B μ3 (fun i => rs[i]?) w'
  fz : ∀ b o v, μs.fz b o = some v → μ3.fz b o = some v
  pl : ∀ i p, μs.pl i = some p → μ3.pl i = some p
  len : rs.length = co.length
  kind : ∀ (i : Nat) (r : AObj), rs[i]? = some r → ∃ o, co[i]? = some o ∧ kindO o = kindO r
  nopl : ∀ (i : Nat) (r : AObj), rs[i]? = some r → nonVec r = false → μ3.pl i = none
theorem kind_vec {o o' : AObj} (h : kindO o = kindO o') : nonVec o = nonVec o' := by cases o <;> cases o' <;> first | rfl | (simp [kindO] at h)
theorem keepN_get : ∀ {seen : List Nat} {objs : List AObj} {n i x : Nat} {o : AObj}, keepN seen objs n = true → seen[i]? = some x → objs[i]? = some o → nonVec o = true → x = n + i
  | [], objs, n, i, x, o, h, h1, h2, h3 => by cases h1
  | y :: l, [], n, i, x, o, h, h1, h2, h3 => by cases h2
  | y :: l, p :: os, n, i, x, o, h, h1, h2, h3 => by
    simp only [keepN, Bool.and_eq_true] at h
    cases i with
    | zero =>
      simp only [List.getElem?_cons_zero, Option.some.injEq] at h1 h2
      subst h1; subst h2
      cases p <;> first | (cases h3; done) | exact (Nat.eq_of_beq_eq_true h.1)
    | succ i =>
      rw [List.getElem?_cons_succ] at h1 h2
      have := keepN_get h.2 h1 h2 h3
      omega
/-- At the end of what was run apart. -/
theorem Inv.close {μs μ : Mu} {h : Hp} {w : World} {seen : List Nat} {objs co : List AObj} {m : List PV} (I : Inv tb B μ h w) (S : Seen h seen objs) (hk : keepN seen objs 0 = true) (hxp : ∀ i p, μs.pl i = some p → μ.pl i = some p) (hxf : ∀ b o v, μs.fz b o = some v → μ.fz b o = some v)
    (hco : ∀ i p, μs.pl i = some p → ∃ o, co[i]? = some o ∧ nonVec o = true) (hm : conformOs tb co (objs.map (packO tb seen objs)) = some m) : BackTo tb B μs co (refillOs co m).1 (subMu seen objs μ) w := by
  have J := I.sub S
  have H := conformOs_ok (tb := tb) (w := w) (μ := subMu seen objs μ) 0 [] hm (fun i o' hi => by rw [Nat.zero_add]; exact J.obj i o' hi)
  rw [List.append_nil] at H
  obtain ⟨_, h2, h3, h4⟩ := H
  have own : ∀ i b, Owns (subMu seen objs μ) (fun i => (refillOs co m).1[i]?) i b → Owns (subMu seen objs μ) (fun i => (objs.map (packO tb seen objs))[i]?) i b := fun i b ho => by
    cases e : (refillOs co m).1[i]? with
    | none => unfold Owns at ho; simp only [e] at ho
    | some ri =>
      obtain ⟨_, o, o', _, e2, k, _⟩ := h4 i ri e
      exact (owns_kind (h := fun i => (refillOs co m).1[i]?) (h' := fun i => (objs.map (packO tb seen objs))[i]?) e e2 k).1 ho
  have back : ∀ (i : Nat) (o' : AObj), (objs.map (packO tb seen objs))[i]? = some o' → ∃ ri, (refillOs co m).1[i]? = some ri ∧ kindO ri = kindO o' := fun i o' e => by
    have hi := (List.getElem?_eq_some_iff.1 e).1
    have e2 : (refillOs co m).1[i]? = some ((refillOs co m).1[i]'(by omega)) := List.getElem?_eq_getElem _
    obtain ⟨_, o, o2, _, e3, k, _⟩ := h4 i _ e2
    rw [e] at e3; cases e3
    exact ⟨_, e2, k⟩
  refine ⟨⟨I.fr, J.fz, I.fzb, fun i b hb => ?_, fun i p hp => ?_, fun i n v hv => ?_, fun i o ho => ?_, fun i j b hij hi hj => J.apart i j b hij (own i b hi) (own j b hj)⟩, fun b o v hv => hxf b o v hv, fun i p hp => ?_, by rw [h2, ← h3], fun i r hr => ?_, fun i r hr hn => ?_⟩
  · obtain ⟨x, _, hx⟩ := sub_owns S (own i b hb)
    exact I.base x b hx
  · cases e : (objs.map (packO tb seen objs))[i]? with
    | none => exact absurd e (J.pdom i p hp)
    | some o' => obtain ⟨ri, e2, _⟩ := back i o' e; rw [e2]; simp
  · obtain ⟨t, ver, e, hle⟩ := J.sdom i n v hv
    obtain ⟨ri, e2, k⟩ := back i _ e
    cases ri <;> simp only [kindO, Prod.mk.injEq] at k <;> first | (exact absurd k.1 (by decide)) | skip
    rename_i t' ver'
    obtain ⟨_, rfl⟩ := k
    exact ⟨t', ver', e2, hle⟩
  · have := (h4 i o ho).1
    rwa [Nat.zero_add] at this
  · obtain ⟨o, hoc, hn⟩ := hco i p hp
    have hi := (List.getElem?_eq_some_iff.1 hoc).1
    have e2 : (objs.map (packO tb seen objs))[i]? = some ((objs.map (packO tb seen objs))[i]'(by omega)) := List.getElem?_eq_getElem _
    obtain ⟨ri, e3, k⟩ := back i _ e2
    obtain ⟨_, o3, o4, e5, e6, k1, k2⟩ := h4 i ri e3
    rw [hoc] at e5; cases e5
    rw [e2] at e6; cases e6
    obtain ⟨x, o5, hs, hob, _, e7⟩ := sub_get S e2
    have hnv : nonVec o5 = true := by
      have := kind_vec k2
      rw [e7, packO_kind] at this
      rw [← this]; exact hn
    have := keepN_get hk hs hob hnv
    rw [Nat.zero_add] at this
    subst this
    simp only [subMu, hs, hob, hnv, if_true]
    exact hxp _ _ hp
  · obtain ⟨_, o, o', e1, e2, k1, k2⟩ := h4 i r hr
    exact ⟨o, e1, k2.trans k1.symm⟩
  · obtain ⟨_, o, o', e1, e2, k1, k2⟩ := h4 i r hr
    obtain ⟨x, o5, hs, hob, _, e7⟩ := sub_get S e2
    have hnv : nonVec o5 = false := by
      have := kind_vec k1
      rw [e7, packO_kind] at this
      rw [← this]; exact hn
    simp only [subMu, hs, hob, hnv]
    rfl
end
end Px
end

section
namespace Px
open Go Go.RowKit
set_option linter.unusedVariables false
set_option linter.unusedSimpArgs false
def backMu (seen : List Nat) (objs : List AObj) (μ μ3 : Mu) : Mu where
  pl := fun x => if x ∈ seen then (match objs[idxN x seen]? with
    | some o => if nonVec o = true then μ3.pl (idxN x seen) else μ.pl x
    | none => μ.pl x) else μ.pl x
  sl := fun x n => if x ∈ seen then (match objs[idxN x seen]? with
    | some (.vec _ ver) => if n = ver + 1 then μ3.sl (idxN x seen) 0 else μ.sl x n
    | _ => μ.sl x n) else μ.sl x n
  fz := μ3.fz
theorem nthL_get : ∀ {seen : List Nat} {i : Nat}, i < seen.length → seen[i]? = some (nthL seen i)
  | [], i, h => by simp at h
  | x :: l, 0, h => rfl
  | x :: l, i + 1, h => by simp only [List.getElem?_cons_succ, nthL]; exact nthL_get (by simpa using h)
theorem nthO_get : ∀ {objs : List AObj} {i : Nat}, nthO objs i = objs[i]?
  | [], i => by cases i <;> rfl
  | x :: l, 0 => rfl
  | x :: l, i + 1 => by simp only [List.getElem?_cons_succ, nthO]; exact nthO_get
section
variable {tb : Tab} {B : Bs} {Φ : Res → Prop} {cE : Nat} {b : Nat} {μ μ3 : Mu} {t : T AObj} {c : Nat} {F : Foot} {w w' : World} {h : Hp} {seen : List Nat} {objs rs : List AObj}
theorem idx_at (S : Seen h seen objs) {i x : Nat} (e : seen[i]? = some x) : idxN x seen = i ∧ x ∈ seen ∧ nthL seen i = x := by
  have hm := List.mem_of_getElem? e
  have h1 := idxN_get hm
  have hi := (List.getElem?_eq_some_iff.1 e).1
  refine ⟨((List.getElem?_inj hi S.nd).1 (e.trans h1.symm)).symm, hm, ?_⟩
  have := nthL_get hi
  rw [e] at this
  exact (Option.some.inj this).symm
theorem mem_at (S : Seen h seen objs) {x : Nat} (e : x ∈ seen) : ∃ (i : Nat) (o : AObj), seen[i]? = some x ∧ objs[i]? = some o ∧ h x = some o := by
  have h1 := idxN_get e
  have hi := (List.getElem?_eq_some_iff.1 h1).1
  have h2 : objs[idxN x seen]? = some (objs[idxN x seen]'(by rw [S.len]; exact hi)) := List.getElem?_eq_getElem _
  exact ⟨_, _, h1, h2, by rw [S.look _ _ h1, h2]⟩
theorem backMu_pl (S : Seen h seen objs) {i x : Nat} {o : AObj} (e : seen[i]? = some x) (ho : objs[i]? = some o) : (backMu seen objs μ μ3).pl x = if nonVec o = true then μ3.pl i else μ.pl x := by
  obtain ⟨h1, h2, _⟩ := idx_at S e
  simp only [backMu, h2, h1, ho, if_true]
theorem backMu_sl (S : Seen h seen objs) {i x ver : Nat} {ty : TypeId} (e : seen[i]? = some x) (ho : objs[i]? = some (.vec ty ver)) (n : Nat) : (backMu seen objs μ μ3).sl x n = if n = ver + 1 then μ3.sl i 0 else μ.sl x n := by
  obtain ⟨h1, h2, _⟩ := idx_at S e
  simp only [backMu, h2, h1, ho, if_true]
theorem backMu_sl_no (S : Seen h seen objs) {i x : Nat} {o : AObj} (e : seen[i]? = some x) (ho : objs[i]? = some o) (hn : nonVec o = true) (n : Nat) : (backMu seen objs μ μ3).sl x n = μ.sl x n := by
  obtain ⟨h1, h2, _⟩ := idx_at S e
  simp only [backMu, h2, h1, ho, if_true]
  cases o <;> first | rfl | (cases hn; done)
theorem backMu_out {x : Nat} (e : x ∉ seen) : (backMu seen objs μ μ3).pl x = μ.pl x ∧ ∀ n, (backMu seen objs μ μ3).sl x n = μ.sl x n := by
  refine ⟨by simp only [backMu, e, if_false], fun n => by simp only [backMu, e, if_false]⟩
/-- What stands behind a name that was handed over. -/
theorem BackTo.get (Bk : BackTo tb (subBs μ h seen w) (subMu seen objs μ) (objs.map (packO tb seen objs)) rs μ3 w') (S : Seen h seen objs) {i : Nat} {r : AObj} (e : rs[i]? = some r) : ∃ (x : Nat) (o : AObj), seen[i]? = some x ∧ objs[i]? = some o ∧ h x = some o ∧ kindO (packO tb seen objs o) = kindO r := by
  obtain ⟨o', h1, h2⟩ := Bk.kind i r e
  obtain ⟨x, o, h3, h4, h5, rfl⟩ := sub_get S h1
  exact ⟨x, o, h3, h4, h5, h2⟩
theorem BackTo.at (Bk : BackTo tb (subBs μ h seen w) (subMu seen objs μ) (objs.map (packO tb seen objs)) rs μ3 w') (S : Seen h seen objs) {i x : Nat} (e : seen[i]? = some x) : ∃ r o, rs[i]? = some r ∧ objs[i]? = some o ∧ h x = some o ∧ kindO (packO tb seen objs o) = kindO r := by
  have hi := (List.getElem?_eq_some_iff.1 e).1
  have hl : i < rs.length := by rw [Bk.len, List.length_map, S.len]; exact hi
  have e2 : rs[i]? = some (rs[i]'hl) := List.getElem?_eq_getElem _
  obtain ⟨x', o, h1, h2, h3, h4⟩ := Bk.get S e2
  rw [e] at h1; cases h1
  exact ⟨_, o, e2, h2, h3, h4⟩
theorem kind_pack {o r : AObj} (k : kindO (packO tb seen objs o) = kindO r) : (nonVec r = nonVec o) ∧ ∀ ty ver, r = .vec ty ver → ver = 0 ∧ ∃ ty' ver', o = .vec ty' ver' := by
  refine ⟨by rw [← kind_vec k, packO_kind], fun ty ver e => ?_⟩
  subst e
  cases o <;> simp only [packO, kindO, Prod.mk.injEq] at k <;> first | (exact absurd k.1 (by decide)) | skip
  exact ⟨k.2.symm, _, _, rfl⟩
theorem back_pl (Bk : BackTo tb (subBs μ h seen w) (subMu seen objs μ) (objs.map (packO tb seen objs)) rs μ3 w') (S : Seen h seen objs) {i : Nat} {p : Place} (hp : μ3.pl i = some p) : (backMu seen objs μ μ3).pl (nthL seen i) = some p := by
  cases e : rs[i]? with
  | none => exact absurd e (Bk.inv.pdom i p hp)
  | some r =>
    obtain ⟨x, o, h1, h2, h3, k⟩ := Bk.get S e
    obtain ⟨_, _, h6⟩ := idx_at S h1
    rw [h6, backMu_pl S h1 h2]
    have hn : nonVec o = true := by
      rw [← (kind_pack k).1]
      cases hr : nonVec r with
      | true => rfl
      | false => rw [Bk.nopl i r e hr] at hp; cases hp
    rw [if_pos hn]; exact hp
theorem back_sl (Bk : BackTo tb (subBs μ h seen w) (subMu seen objs μ) (objs.map (packO tb seen objs)) rs μ3 w') (S : Seen h seen objs) {i n : Nat} {v : Value} (hv : μ3.sl i n = some v) : (backMu seen objs μ μ3).sl (nthL seen i) (nextVer objs i) = some v := by
  obtain ⟨ty, ver, e, hle⟩ := Bk.inv.sdom i n v hv
  obtain ⟨x, o, h1, h2, h3, k⟩ := Bk.get S e
  obtain ⟨h4, ty', ver', h5⟩ := (kind_pack k).2 ty ver rfl
  subst h5
  obtain ⟨_, _, h6⟩ := idx_at S h1
  have hn : n = 0 := by omega
  subst hn
  have : nextVer objs i = ver' + 1 := by unfold nextVer; rw [nthO_get, h2]
  rw [h6, this, backMu_sl S h1 h2, if_pos rfl]
  exact hv
mutual
theorem backA_ok (Bk : BackTo tb (subBs μ h seen w) (subMu seen objs μ) (objs.map (packO tb seen objs)) rs μ3 w') (S : Seen h seen objs) : ∀ (a : AV) (v : Value), Rel tb μ3 a v → Rel tb (backMu seen objs μ μ3) (backA seen objs a) v
  | .bool _, _, h => h
  | .int _ _, _, h => h
  | .str _, _, h => h
  | .ptr none, _, h => h
  | .ptr (some q), v, ⟨p, hp, e⟩ => ⟨p, back_pl Bk S hp, e⟩
  | .glob _ _, _, h => h
  | .nils, _, h => h
  | .pv t p, v, h => h
  | .fp t p, v, h => h
  | .vs x ver t es, v, ⟨h1, h2, h3⟩ => ⟨h1, back_sl Bk S h2, h3⟩
  | .ar x t, v, ⟨p, n, ad, e, sz, h1, h2⟩ => ⟨p, n, ad, e, sz, back_pl Bk S h1, h2⟩
  | .ap x t i, v, ⟨p, sz, h1, h2⟩ => ⟨p, sz, back_pl Bk S h1, h2⟩
  | .map none, _, h => h
  | .map (some x), v, h => h
  | .func fn f c, v, ⟨f', c', e, h1, h2⟩ => ⟨f', c', e, backL_ok Bk S f _ h1, backL_ok Bk S c _ h2⟩
  | .nilFunc, _, h => h
  | .iface t a, v, ⟨v', e, h⟩ => ⟨v', e, backA_ok Bk S a v' h⟩
  | .nilIface, _, h => h
  | .agg cs, v, ⟨xs, e, h⟩ => ⟨xs, e, backL_ok Bk S cs _ h⟩
  | .tuple cs, v, ⟨xs, e, h⟩ => ⟨xs, e, backL_ok Bk S cs _ h⟩
  | .dead, _, h => h
theorem backL_ok (Bk : BackTo tb (subBs μ h seen w) (subMu seen objs μ) (objs.map (packO tb seen objs)) rs μ3 w') (S : Seen h seen objs) : ∀ (l : List AV) (vs : List Value), RelL tb μ3 l vs → RelL tb (backMu seen objs μ μ3) (backL seen objs l) vs
  | [], _, h => h
  | a :: as, vs, ⟨v, vs', e, h1, h2⟩ => ⟨v, vs', e, backA_ok Bk S a v h1, backL_ok Bk S as vs' h2⟩
end
theorem back_ext (I : Inv tb B μ h w) (Bk : BackTo tb (subBs μ h seen w) (subMu seen objs μ) (objs.map (packO tb seen objs)) rs μ3 w') (S : Seen h seen objs) : Ext μ (backMu seen objs μ μ3) := by
  refine ⟨fun x p hp => ?_, fun x n v hv => ?_, fun b o v hv => Bk.fz b o v hv⟩
  · by_cases hx : x ∈ seen
    · obtain ⟨i, o, h1, h2, h3⟩ := mem_at S hx
      rw [backMu_pl S h1 h2]
      by_cases hn : nonVec o = true
      · rw [if_pos hn]
        refine Bk.pl i p ?_
        simp only [subMu, h1, h2, hn, if_true]; exact hp
      · rw [if_neg hn]; exact hp
    · rw [(backMu_out hx).1]; exact hp
  · by_cases hx : x ∈ seen
    · obtain ⟨i, o, h1, h2, h3⟩ := mem_at S hx
      obtain ⟨ty, ver, h4, h5⟩ := I.sdom x n v hv
      rw [h3] at h4; cases h4
      rw [backMu_sl S h1 h2, if_neg (by omega)]; exact hv
    · rw [(backMu_out hx).2]; exact hv
theorem back_obj (Bk : BackTo tb (subBs μ h seen w) (subMu seen objs μ) (objs.map (packO tb seen objs)) rs μ3 w') (S : Seen h seen objs) {i x : Nat} {r o : AObj} (e : rs[i]? = some r) (hs : seen[i]? = some x) (ho : objs[i]? = some o) (k : kindO (packO tb seen objs o) = kindO r) : ObjAt tb (backMu seen objs μ μ3) w' x (backO seen objs i r) := by
  have H := Bk.inv.obj i r e
  have hpl : nonVec r = true → (backMu seen objs μ μ3).pl x = μ3.pl i := fun hn => by rw [backMu_pl S hs ho, if_pos (by rw [← (kind_pack k).1]; exact hn)]
  cases r with
  | box t v =>
    obtain ⟨p, u, H⟩ := H
    exact ⟨p, u, (hpl rfl).trans H.pl, backA_ok Bk S _ _ H.rel, H.kind, H.sz, H.r, H.one, H.cells, H.free⟩
  | vec t ver =>
    obtain ⟨A, n, c, e', sz, H⟩ := H
    have := back_sl Bk S H.sl
    rw [(idx_at S hs).2.2] at this
    exact ⟨A, n, c, e', sz, this, H.el, H.le, H.nil, H.free⟩
  | arr t es =>
    obtain ⟨p, e', sz, H⟩ := H
    exact ⟨p, e', sz, (hpl rfl).trans H.pl, H.el, H.r, H.cells, H.free⟩
  | map es ck => exact H
  | dead => trivial
theorem back_owns (Bk : BackTo tb (subBs μ h seen w) (subMu seen objs μ) (objs.map (packO tb seen objs)) rs μ3 w') (S : Seen h seen objs) {h4 : Hp} {i x b : Nat} {r o : AObj} (e : rs[i]? = some r) (hs : seen[i]? = some x) (ho : objs[i]? = some o) (k : kindO (packO tb seen objs o) = kindO r) (h4x : h4 x = some (backO seen objs i r)) (hb : Owns (backMu seen objs μ μ3) h4 x b) : Owns μ3 (fun i => rs[i]?) i b := by
  have hpl : nonVec r = true → (backMu seen objs μ μ3).pl x = μ3.pl i := fun hn => by rw [backMu_pl S hs ho, if_pos (by rw [← (kind_pack k).1]; exact hn)]
  unfold Owns at hb ⊢
  rw [h4x] at hb
  simp only [e]
  cases r with
  | box t v => obtain ⟨p, h1, h2⟩ := hb; exact ⟨p, (hpl rfl).symm.trans h1, h2⟩
  | arr t v => obtain ⟨p, h1, h2⟩ := hb; exact ⟨p, (hpl rfl).symm.trans h1, h2⟩
  | vec t ver =>
    obtain ⟨o', n, c, h1, h2⟩ := hb
    obtain ⟨h5, ty', ver', h6⟩ := (kind_pack k).2 t ver rfl
    subst h6; subst h5
    have : nextVer objs i = ver' + 1 := by unfold nextVer; rw [nthO_get, ho]
    rw [this, backMu_sl S hs ho, if_pos rfl] at h1
    exact ⟨o', n, c, h1, h2⟩
  | map _ _ => exact hb
  | dead => exact hb
/-- What was run apart is laid back. -/
theorem Inv.back (I : Inv tb B μ h w) (S : Seen h seen objs) (Bk : BackTo tb (subBs μ h seen w) (subMu seen objs μ) (objs.map (packO tb seen objs)) rs μ3 w') {h4 : Hp}
    (h1 : ∀ (i x : Nat) (r : AObj), seen[i]? = some x → rs[i]? = some r → h4 x = some (backO seen objs i r)) (h2 : ∀ x, x ∉ seen → h4 x = h x) : Inv tb B (backMu seen objs μ μ3) h4 w' := by
  have fr : Fr (fun b => ∃ x, x ∈ seen ∧ Owns μ h x b) w w' := Bk.inv.fr
  have own : ∀ x b, x ∈ seen → Owns (backMu seen objs μ μ3) h4 x b → ∃ i, seen[i]? = some x ∧ Owns μ3 (fun i => rs[i]?) i b := fun x b hx hb => by
    obtain ⟨i, o, e1, e2, e3⟩ := mem_at S hx
    obtain ⟨r, o', e4, e5, _, k⟩ := Bk.at S e1
    rw [e2] at e5; cases e5
    exact ⟨i, e1, back_owns Bk S e4 e1 e2 k (h1 i x r e1 e4) hb⟩
  refine I.upd (fun x => x ∈ seen) (I.fr.trans fr (fun _ _ h => h) (fun b hb ⟨x, _, ho⟩ => ?_)) fr.size (fun b hb hn => fr.block b hb (fun ⟨x, hx, ho⟩ => hn x hx ho)) (back_ext I Bk S) (fun x hx => backMu_out hx) (fun b o v hv => ?_) (fun b o v hv _ => ?_) h2 (fun x hx => ?_) (fun x n v hx hv => ?_) (fun x o hx ho => ?_) (fun x b hx hb => ?_) (fun x y b hx hy hxy h3 h4' => ?_)
  · rcases (I.base x b ho).2 with h | h
    · exact h
    · omega
  · rcases Bk.inv.fzb b o v hv with h | h | h
    · exact .inl h
    · exact .inr ⟨.inr h, Bk.inv.fz b o v hv⟩
    · exact .inr ⟨.inl h, Bk.inv.fz b o v hv⟩
  · exact (Bk.inv.fz b o v (Bk.fz b o v hv)).1
  · obtain ⟨i, o, e1, e2, e3⟩ := mem_at S hx
    obtain ⟨r, o', e4, _, _, _⟩ := Bk.at S e1
    rw [h1 i x r e1 e4]; simp
  · obtain ⟨i, o, e1, e2, e3⟩ := mem_at S hx
    obtain ⟨r, o', e4, e5, _, k⟩ := Bk.at S e1
    rw [e2] at e5; cases e5
    cases hn : nonVec o with
    | true =>
      rw [backMu_sl_no S e1 e2 hn] at hv
      obtain ⟨ty, ver, e6, _⟩ := I.sdom x n v hv
      rw [e3] at e6; cases e6; cases hn
    | false =>
      obtain ⟨ty, ver, rfl⟩ : ∃ ty ver, o = .vec ty ver := by
        cases o <;> first | (cases hn; done) | exact ⟨_, _, rfl⟩
      have hr : nonVec r = false := by rw [(kind_pack k).1]; rfl
      obtain ⟨ty', ver', rfl⟩ : ∃ ty ver, r = .vec ty ver := by
        cases r <;> first | (cases hr; done) | exact ⟨_, _, rfl⟩
      have nv : nextVer objs i = ver + 1 := by unfold nextVer; rw [nthO_get, e2]
      refine ⟨ty', ver + 1, ?_, ?_⟩
      · rw [h1 i x _ e1 e4]
        simp only [backO, nv]
      · rw [backMu_sl S e1 e2] at hv
        by_cases hn : n = ver + 1
        · omega
        · rw [if_neg hn] at hv
          obtain ⟨ty2, ver2, e6, hle⟩ := I.sdom x n v hv
          rw [e3] at e6; cases e6; omega
  · obtain ⟨i, o', e1, e2, e3⟩ := mem_at S hx
    obtain ⟨r, o2, e4, e5, _, k⟩ := Bk.at S e1
    rw [e2] at e5; cases e5
    rw [h1 i x r e1 e4] at ho; cases ho
    exact back_obj Bk S e4 e1 e2 k
  · obtain ⟨i, e1, hb⟩ := own x b hx hb
    obtain ⟨h3, h4⟩ := Bk.inv.base i b hb
    refine ⟨h3, ?_⟩
    rcases h4 with ⟨y, hy, ho⟩ | h4
    · exact .inr ⟨y, hy, ho⟩
    · exact .inl h4
  · obtain ⟨i, e1, hi⟩ := own x b hx h3
    obtain ⟨j, e2, hj⟩ := own y b hy h4'
    refine Bk.inv.apart i j b (fun e => hxy ?_) hi hj
    subst e
    rw [e1] at e2; exact Option.some.inj e2
end
end Px
end

section
namespace Px
open Go Go.RowKit
set_option linter.unusedVariables false
set_option linter.unusedSimpArgs false
section
variable {tb : Tab} {B : Bs} {Φ : Res → Prop} {cE : Nat} {b : Nat} {μ μ3 : Mu} {t : T AObj} {c : Nat} {F : Foot} {w w' : World} {h : Hp} {seen : List Nat} {objs rs : List AObj}
theorem setsE_run (nd : seen.Nodup) : ∀ (rs : List AObj) (i : Nat) (k : E) (t : T AObj) (F : Foot), F.ok → i + rs.length ≤ seen.length → All Φ ((setsE seen objs rs i k).run t c b F) →
    ∃ t' F', All Φ (k.run t' c b F') ∧ F'.ok ∧ (∀ (j : Nat) (r : AObj), rs[j]? = some r → t'.look (nthL seen (i + j)) = some (backO seen objs (i + j) r)) ∧ (∀ x, (∀ j, j < rs.length → x ≠ nthL seen (i + j)) → t'.look x = t.look x)
  | [], i, k, t, F, hF, hl, hr => ⟨t, F, hr, hF, (fun j r h => by cases h), fun _ _ => rfl⟩
  | r :: rs, i, k, t, F, hF, hl, hr => by
    have hr : All Φ ((E.set (nthL seen i) (backO seen objs i r) (setsE seen objs rs (i + 1) k)).run t c b F) := hr
    rw [run_set] at hr
    by_cases hx : nthL seen i < c
    · rw [if_pos hx] at hr
      rw [List.length_cons] at hl
      obtain ⟨t', F', h1, h2, h3, h4⟩ := setsE_run nd rs (i + 1) k _ _ (Foot.ok_touch hF _ _ _) (by omega) hr
      have hinj : ∀ j, j < rs.length → nthL seen i ≠ nthL seen (i + 1 + j) := fun j hj e => by
        have e1 := nthL_get (seen := seen) (i := i) (by omega)
        have e2 := nthL_get (seen := seen) (i := i + 1 + j) (by omega)
        have := (List.getElem?_inj (by omega) nd).1 (e1.trans (by rw [e2, e]))
        omega
      refine ⟨t', F', h1, h2, fun j r' hj => ?_, fun x hx2 => ?_⟩
      · cases j with
        | zero =>
          simp only [List.getElem?_cons_zero, Option.some.injEq] at hj
          subst hj
          rw [Nat.add_zero, h4 _ hinj, T.look_put, if_pos rfl]
        | succ j =>
          rw [List.getElem?_cons_succ] at hj
          rw [show i + (j + 1) = i + 1 + j by omega]
          exact h3 j r' hj
      · rw [h4 x (fun j hj => by rw [show i + 1 + j = i + (j + 1) by omega]; exact hx2 (j + 1) (by rw [List.length_cons]; omega)), T.look_put, if_neg]
        have := hx2 0 (by simp)
        exact this
    · rw [if_neg hx] at hr; exact (All.none hr).elim
/-- What was run apart is laid back, and all goes on. -/
theorem St.back {k : E} (s : St tb B Φ cE (setsE seen objs rs 0 k) b μ t c F w) (S : Seen t.look seen objs) (hc : ∀ x ∈ seen, x < c) (Bk : BackTo tb (subBs μ t.look seen w) (subMu seen objs μ) (objs.map (packO tb seen objs)) rs μ3 w') :
    ∃ t' F', St tb B Φ cE k b (backMu seen objs μ μ3) t' c F' w' := by
  have hl : rs.length = seen.length := by rw [Bk.len, List.length_map, S.len]
  obtain ⟨t', F', h1, h2, h3, h4⟩ := setsE_run (b := b) (c := c) (objs := objs) S.nd rs 0 k t F s.ok (by omega) s.run
  refine ⟨t', F', h1, s.inv.back S Bk (fun i x r hs hr => ?_) (fun x hx => h4 x (fun j hj e => hx ?_)), fun x h5 h6 => ?_, s.bc, h2⟩
  · have := h3 i r hr
    rw [Nat.zero_add, (idx_at S hs).2.2] at this
    exact this
  · have := nthL_get (seen := seen) (i := 0 + j) (by omega)
    rw [← e] at this
    exact List.mem_of_getElem? this
  · rw [h4 x (fun j hj e => ?_)]
    · exact s.fresh x h5 h6
    · have := nthL_get (seen := seen) (i := 0 + j) (by omega)
      rw [← e] at this
      have := hc x (List.mem_of_getElem? this)
      omega
/-- The memory that is handed over, as a plain run begins with it. -/
theorem sub_look {objs : List AObj} : (T.ofL objs 0 .leaf).look = fun i => objs[i]? := by funext i; rw [T.look_ofL0]
end
end Px
end

section
namespace Px
open Go Go.RowKit
set_option linter.unusedVariables false
set_option linter.unusedSimpArgs false
section
variable {P : Program} {tb : Tab} {B : Bs} {Φ : Res → Prop} {cE : Nat} {b : Nat} {μ μ3 : Mu} {t : T AObj} {c : Nat} {F : Foot} {w w' : World} {h : Hp} {seen : List Nat} {objs rs : List AObj}
def ResL (tb : Tab) (fz : Fz) : List TypeId → PV → Nat → List Value → Prop
  | [], _, _, us => us = []
  | t :: ts, p, i, us => ∃ u us', us = u :: us' ∧ RelP tb fz t (p.at i) u ∧ ResL tb fz ts p (i + 1) us'
/-- A function's results, as data. -/
def ResIs (tb : Tab) (fz : Fz) (ts : List TypeId) (p : PV) (v : Value) : Prop := match ts with
  | [] => True
  | [t] => RelP tb fz t p v
  | ts => ∃ xs, v = .tuple xs ∧ ResL tb fz ts p 0 xs.toList
theorem resultsV_ok : ∀ {ts : List TypeId} {p : PV} {i : Nat} {l : List AV} {us : List Value}, resultsV tb ts p i = some l → ResL tb μ.fz ts p i us → RelL tb μ l us
  | [], p, i, l, us, h, hr => by simp only [resultsV, Option.some.injEq] at h; subst h; exact hr
  | t :: ts, p, i, l, us, h, hr => by
    simp only [resultsV] at h
    obtain ⟨u, us', rfl, h1, h2⟩ := hr
    cases e1 : expandV tb t (p.at i) with
    | none => rw [e1] at h; cases h
    | some v =>
      cases e2 : resultsV tb ts p (i + 1) with
      | none => rw [e1, e2] at h; cases h
      | some m =>
        rw [e1, e2] at h
        simp only [Option.some.injEq] at h; subst h
        exact RelL.cons (expandV_ok e1 h1) (resultsV_ok e2 h2)
theorem resultV_ok {ts : List TypeId} {p : PV} {a : AV} {v : Value} (h : resultV tb ts p = some a) (hr : ResIs tb μ.fz ts p v) : Rel tb μ a v := by
  cases ts with
  | nil => simp only [resultV, Option.some.injEq] at h; subst h; exact trivial
  | cons t ts =>
    cases ts with
    | nil => exact expandV_ok h hr
    | cons t2 ts =>
      simp only [resultV] at h
      obtain ⟨xs, rfl, hr⟩ := hr
      cases e : resultsV tb (t :: t2 :: ts) p 0 with
      | none => rw [e] at h; cases h
      | some l =>
        rw [e] at h
        simp only [Option.some.injEq] at h; subst h
        exact ⟨xs, rfl, resultsV_ok e hr⟩
theorem normArg_ok {t : TypeId} {a : AV} {v : Value} (hr : Rel tb μ a v) : Rel tb μ (normArg tb t a) v := by
  unfold normArg
  cases e : norm tb 20 t a with
  | none => exact hr
  | some p =>
    simp only
    cases e2 : expandV tb t p with
    | none => exact hr
    | some u => exact expandV_ok e2 (norm_ok e hr)
theorem normArgs_ok : ∀ {ts : List TypeId} {as : List AV} {us : List Value}, RelL tb μ as us → RelL tb μ (normArgs tb ts as) us
  | [], as, us, h => by cases as <;> exact h
  | t :: ts, [], us, h => h
  | t :: ts, a :: as, us, ⟨v, vs, e, h1, h2⟩ => ⟨v, vs, e, normArg_ok h1, normArgs_ok h2⟩
/-- What is answered of data is what the function does. -/
def CxOk (P : Program) (tb : Tab) (cx : FuncId → List AV → List AObj → Ans) : Prop :=
  ∀ (f : FuncId) (fn : Func) (args : List AV) (objs : List AObj) (p : PV) (ls : List PV), tb.fn.look f = some fn → cx f args objs = some (p, ls) →
    ∀ (B : Bs) (μ : Mu) (w : World) (us : List Value), Inv tb B μ (fun i => objs[i]?) w → RelL tb μ args us → (∀ i p, μ.pl i = some p → ∃ o, objs[i]? = some o ∧ nonVec o = true) →
      (callFunc f us.toArray).run P w = .ok (.enter f us.toArray) w ∧ Calls P f us.toArray w fun e w' => ∃ v μ3, e = .returned v ∧ BackTo tb B μ objs (refillOs objs ls).1 μ3 w' ∧ ResIs tb μ3.fz fn.resultTypes.toList p v
theorem subMu_nopl {i : Nat} {p : Place} (hp : (subMu seen objs μ).pl i = some p) : ∃ o, (objs.map (packO tb seen objs))[i]? = some o ∧ nonVec o = true := by
  simp only [subMu] at hp
  cases ho : objs[i]? with
  | none => rw [ho] at hp; cases hp
  | some o =>
    cases hs : seen[i]? with
    | none => rw [ho, hs] at hp; cases hp
    | some x =>
      rw [ho, hs] at hp
      simp only at hp
      by_cases hn : nonVec o = true
      · exact ⟨packO tb seen objs o, by rw [List.getElem?_map, ho]; rfl, by rw [packO_kind]; exact hn⟩
      · rw [if_neg hn] at hp; cases hp
theorem callIso_ok {cx : FuncId → List AV → List AObj → Ans} (hcx : CxOk P tb cx) : CallOk P tb B Φ cE (callIso tb cx) := by
  intro f args us k b μ t c F w N s ra hN
  unfold callIso at s
  cases hf : tb.fn.look f with
  | none => rw [hf] at s; exact (St.fail (n := 500) s).elim
  | some fn =>
    rw [hf] at s
    simp only at s
    obtain ⟨seen, objs, F1, S, hc, s⟩ := reachE_ok s (seen_nil _) (fun x h => by cases h)
    have ra2 := normArgs_ok (ts := fn.params.toList) ra
    cases hr : cx f (packL seen objs (normArgs tb fn.params.toList args)) (objs.map (packO tb seen objs)) with
    | none => rw [hr] at s; exact absurd (St.ck s).1 (by simp [isAns])
    | some r =>
      obtain ⟨p, ls⟩ := r
      rw [hr] at s
      obtain ⟨_, s⟩ := St.ck s
      obtain ⟨h1, h2⟩ := hcx f fn _ _ p ls hf hr _ _ w us (s.inv.sub S) (packL_ok _ _ ra2) (fun i p hp => subMu_nopl hp)
      refine .inr ⟨h1, h2.mono fun e w' ⟨v, μ3, hv, Bk, hres⟩ => ⟨v, hv, ?_⟩⟩
      obtain ⟨t', F', s2⟩ := St.back s S hc Bk
      obtain ⟨a, ha, s3⟩ := St.opt s2
      have rr : Rel tb (backMu seen objs μ μ3) a v := resultV_ok (μ := backMu seen objs μ μ3) ha hres
      exact hN a t' c F' _ w' v s3 ⟨Nat.le_refl _, back_ext s.inv Bk S⟩ rr
end
end Px
end

section
namespace Px
open Go Go.RowKit
set_option linter.unusedVariables false
set_option linter.unusedSimpArgs false
def exX : Ex → Exit
  | .normal => .normal
  | .ret => .ret
  | .exit id => .exit id
/-- A code's plain run is what the code does. -/
def COk (P : Program) (tb : Tab) (code : AAct → (Ex → AAct → E) → E) (x : Code) : Prop :=
  ∀ (B : Bs) (Φ : Res → Prop) (cE : Nat), (∀ q, Φ q → q.2.2.1 ≤ cE) → ∀ (a : AAct) (ca : Act) (k : Ex → AAct → E) (b : Nat) (μ : Mu) (t : T AObj) (c : Nat) (F : Foot) (w : World) (Q : Exit → Act → World → Prop),
    St tb B Φ cE (code a k) b μ t c F w → ActRel tb μ a ca →
    (∀ e a' ca' t' c' F' μ' w', St tb B Φ cE (k e a') b μ' t' c' F' w' → Later μ c μ' c' → ActRel tb μ' a' ca' → Q (exX e) ca' w') → x.wp P Q ca w
theorem pvs_map : ∀ (ls : List PV), pvs (ls.map fun q => AV.pv 0 q) = some ls
  | [] => rfl
  | p :: ls => by simp only [List.map_cons, pvs, pvs_map ls]
def liveOf (lv : List Nat) (ca : Act) : List Value := lv.map fun t => ca.tmps.getD t undef
section
variable {P : Program} {tb : Tab} {B : Bs} {Φ : Res → Prop} {cE : Nat} {b : Nat} {μ μs μ3 : Mu} {t : T AObj} {c : Nat} {F : Foot} {w w' : World} {os rs : List AObj} {a : AAct} {ca : Act}
theorem atL_ok {g : Nat → Bool} (h : ∀ t, Rel tb μ (a.at t) (ca.tmps.getD t undef)) : ∀ (lv : List Nat), RelL tb μ (atL a g lv) (liveOf lv ca)
  | [] => rfl
  | t :: lv => by
    refine RelL.cons ?_ (atL_ok h lv)
    cases g t with
    | true => exact h t
    | false => exact dropR_ok (h t)
theorem putL_sz {z : Nat} : ∀ (lv : List Nat) (vs : List AV) (a : AAct), (putL z lv vs a).sz = a.sz
  | [], vs, a => by cases vs <;> rfl
  | t :: lv, [], a => rfl
  | t :: lv, v :: vs, a => (putL_sz lv vs _).trans (put_sz _ _ _)
theorem putL_ok {z : Nat} : ∀ (lv : List Nat) (vs : List AV) (a : AAct), (∀ t, Rel tb μ (a.at t) (ca.tmps.getD t undef)) → RelL tb μ vs (liveOf lv ca) → ∀ t, Rel tb μ ((putL z lv vs a).at t) (ca.tmps.getD t undef)
  | [], vs, a, h, hl => by cases vs <;> exact h
  | t :: lv, [], a, h, hl => h
  | t :: lv, v :: vs, a, h, hl => by
    obtain ⟨u, us, e, h1, h2⟩ := hl
    simp only [liveOf, List.map_cons, List.cons.injEq] at e
    obtain ⟨rfl, rfl⟩ := e
    refine putL_ok lv vs _ (fun x => ?_) h2
    rw [put_at]
    by_cases hx : some t = some x
    · rw [if_pos hx]; cases hx; exact h1
    · rw [if_neg hx]; exact h x
theorem leaf_at (sz t : Nat) : (AAct.mk sz .leaf).at t = undA := by rw [at_eq]; show ((T.leaf : T AV).look t).getD undA = undA; rw [T.look_leaf]; rfl
/-- The end of a round. -/
theorem closeE_end {q : Res} {vs es : List AV} {p : PV} {us : List Value} (s : St tb B (fun x => x = q) cE (closeE tb vs es os p) b μ t c F w) (hr : RelL tb μ vs us)
    (hxp : ∀ i p, μs.pl i = some p → μ.pl i = some p) (hxf : ∀ b o v, μs.fz b o = some v → μ.fz b o = some v) (hco : ∀ i p, μs.pl i = some p → ∃ o, os[i]? = some o ∧ nonVec o = true) :
    ∃ ls, answerOf q.1 = some (p, ls) ∧ ∃ μ3, BackTo tb B μs os (refillOs os (refillL es ls).2).1 μ3 w ∧ RelL tb μ3 (refillL es ls).1 us := by
  unfold closeE at s
  obtain ⟨seen, objs, F1, S, hc, s⟩ := reachE_ok s (seen_nil _) (fun x h => by cases h)
  obtain ⟨hk, s⟩ := St.when s
  obtain ⟨l, hl, s⟩ := St.opt s
  obtain ⟨m, hm, s⟩ := St.opt s
  obtain ⟨q', e1, e2⟩ := s.run (some (.tuple (.pv 0 p :: (l ++ m).map fun q => .pv 0 q), t, c, F1)) (by unfold answer; rw [run_pure]; exact List.mem_singleton.2 rfl)
  simp only [Option.some.injEq] at e1
  subst e1
  subst e2
  obtain ⟨h1, h2⟩ := conformL_ok es _ l m us hl (packL_ok (seen := seen) (objs := objs) vs us hr)
  refine ⟨l ++ m, by show (match pvs ((l ++ m).map fun q => AV.pv 0 q) with | some ls => some (p, ls) | none => none) = _; rw [pvs_map], subMu seen objs μ, ?_, h1⟩
  rw [h2]
  exact s.inv.close S hk hxp hxf hco hm
theorem round_ok {code : AAct → (Ex → AAct → E) → E} {x : Code} (hcode : COk P tb code x) {sz : Nat} {lv : List Nat} {g : Nat → Bool} {es : List AV} {es2 : Nat → List AV} {ls : List PV} {K : PV → List PV → Ans} {r : PV × List PV} {Q : Exit → Act → World → Prop}
    (h : roundX tb code sz lv g es es2 os ls K = some r) (Bk : BackTo tb B μs os (refillOs os (refillL es ls).2).1 μ w) (hl : RelL tb μ (refillL es ls).1 (liveOf lv ca)) (hs : ca.tmps.size = sz) (hd : ca.defers = [])
    (hco : ∀ i p, μs.pl i = some p → ∃ o, os[i]? = some o ∧ nonVec o = true)
    (hQ : ∀ e ls' ca' μ' w', K (.int (exCode e)) ls' = some r → BackTo tb B μs os (refillOs os (refillL (es2 (exN e)) ls').2).1 μ' w' → RelL tb μ' (refillL (es2 (exN e)) ls').1 (liveOf lv ca') → ca'.tmps.size = sz → ca'.defers = [] → Q (exX e) ca' w') : x.wp P Q ca w := by
  unfold roundX at h
  obtain ⟨q, hrun, hK⟩ := runK_run _ _ _ _ _ _ _ h
  have s : St tb B (fun x => x = q) q.2.2.1 (code (putL 0 lv (refillL es ls).1 ⟨sz, .leaf⟩) fun ex a => bif Nat.beq a.sz sz then closeE tb (atL a g lv) (es2 (exN ex)) os (.int (exCode ex)) else .fail 521) 0 μ (T.ofL (refillOs os (refillL es ls).2).1 0 .leaf) os.length Foot.empty w :=
    ⟨by rw [hrun]; exact fun o ho => ⟨q, List.mem_singleton.1 ho, rfl⟩, by rw [sub_look]; exact Bk.inv, fun x h1 _ => by rw [sub_look]; exact List.getElem?_eq_none (by rw [Bk.len]; exact h1), Nat.zero_le _, Foot.ok_empty⟩
  have ra : ActRel tb μ (putL 0 lv (refillL es ls).1 ⟨sz, .leaf⟩) ca := ⟨by rw [putL_sz]; exact hs, putL_ok lv _ _ (fun t => by rw [leaf_at]; exact trivial) hl, hd⟩
  refine hcode B _ _ (fun x e => by rw [e]; exact Nat.le_refl _) _ ca _ 0 μ _ _ _ w Q s ra fun e a' ca' t' c' F' μ' w' s' lt ra' => ?_
  obtain ⟨hsz, s1⟩ := St.when s'
  have hsz := Nat.eq_of_beq_eq_true hsz
  obtain ⟨ls', hans, μ3, Bk', hl'⟩ := closeE_end (μs := μs) s1 (atL_ok ra'.tmps lv) (fun i p hp => lt.ext.pl _ _ (Bk.pl i p hp)) (fun b o v hv => lt.ext.fz _ _ _ (Bk.fz b o v hv)) hco
  rw [hans] at hK
  exact hQ e ls' ca' μ3 w' hK Bk' hl' (ra'.size.trans hsz) ra'.defers
theorem rounds_ok {code : AAct → (Ex → AAct → E) → E} {x : Code} (hcode : COk P tb code x) {sz : Nat} {lv : List Nat} {g : Nat → Bool} {es : List AV} {sh : Nat → List (Option AV)} (hco : ∀ i p, μs.pl i = some p → ∃ o, os[i]? = some o ∧ nonVec o = true) {p : PV} {lf : List PV} {Q : Exit → Act → World → Prop}
    (hQ : ∀ e ca' μ' w', p = .int (exCode e) → e ≠ .normal → BackTo tb B μs os (refillOs os (refillL (loopSh sh es (exN e)) lf).2).1 μ' w' → RelL tb μ' (refillL (loopSh sh es (exN e)) lf).1 (liveOf lv ca') → ca'.tmps.size = sz → ca'.defers = [] → Q (exX e) ca' w') :
    ∀ (m : Nat) (ls : List PV) (ca : Act) (μ : Mu) (w : World), loopX m (roundX tb code sz lv g es (loopSh sh es) os) ls = some (p, lf) → BackTo tb B μs os (refillOs os (refillL es ls).2).1 μ w → RelL tb μ (refillL es ls).1 (liveOf lv ca) → ca.tmps.size = sz → ca.defers = [] → Code.rounds P x Q m ca w
  | 0, ls, ca, μ, w, h, Bk, hl, hs, hd => by exact absurd (show (none : Ans) = some (p, lf) from h) (by simp)
  | m + 1, ls, ca, μ, w, h, Bk, hl, hs, hd => by
    rw [rounds_succ]
    refine round_ok hcode (Q := Exit.then (Code.rounds P x Q m) Q) h Bk hl hs hd hco fun e ls' ca' μ' w' hK Bk' hl' hs' hd' => ?_
    have hK : @Bool.rec (fun _ => Ans) (some (.int (exCode e), ls')) (loopX m (roundX tb code sz lv g es (loopSh sh es) os) ls') (eqI (exCode e) 0) = some (p, lf) := hK
    cases e with
    | normal => exact rounds_ok hcode hco hQ m ls' ca' μ' w' hK Bk' hl' hs' hd'
    | ret =>
      have hK : some (PV.int (exCode .ret), ls') = some (p, lf) := hK
      simp only [Option.some.injEq, Prod.mk.injEq] at hK
      obtain ⟨rfl, rfl⟩ := hK
      exact hQ .ret ca' μ' w' rfl (by simp) Bk' hl' hs' hd'
    | exit j =>
      have hj : eqI (exCode (.exit j)) 0 = false := by
        simp only [eqI, exCode, beq_eq_false_iff_ne, ne_eq]
        intro h
        have : Int.ofNat (j + 2) = Int.ofNat 0 := h
        simp only [Int.ofNat.injEq] at this
        omega
      rw [hj] at hK
      have hK : some (PV.int (exCode (.exit j)), ls') = some (p, lf) := hK
      simp only [Option.some.injEq, Prod.mk.injEq] at hK
      obtain ⟨rfl, rfl⟩ := hK
      exact hQ (.exit j) ca' μ' w' rfl (by simp) Bk' hl' hs' hd'
end
end Px
end

section
namespace Px
open Go Go.RowKit
set_option linter.unusedVariables false
set_option linter.unusedSimpArgs false
section
variable {P : Program} {tb : Tab} {B : Bs} {Φ : Res → Prop} {cE : Nat} {b : Nat} {μ μs μ3 : Mu} {t : T AObj} {c : Nat} {F : Foot} {w w' : World} {os rs : List AObj} {a : AAct} {ca : Act}
/-- Memory that is handed over, as it is. -/
theorem BackTo.self {m : List PV} (J : Inv tb B μs (fun i => os[i]?) w) (hm : conformOs tb os os = some m) (hco : ∀ i p, μs.pl i = some p → ∃ o, os[i]? = some o ∧ nonVec o = true) : BackTo tb B μs os (refillOs os m).1 μs w := by
  have H := conformOs_ok (tb := tb) (w := w) (μ := μs) 0 [] hm (fun i o' hi => by rw [Nat.zero_add]; exact J.obj i o' hi)
  rw [List.append_nil] at H
  obtain ⟨_, h2, h3, h4⟩ := H
  have own : ∀ i b, Owns μs (fun i => (refillOs os m).1[i]?) i b → Owns μs (fun i => os[i]?) i b := fun i b ho => by
    cases e : (refillOs os m).1[i]? with
    | none => unfold Owns at ho; simp only [e] at ho
    | some ri =>
      obtain ⟨_, o, o', _, e2, k, _⟩ := h4 i ri e
      exact (owns_kind (h := fun i => (refillOs os m).1[i]?) (h' := fun i => os[i]?) e e2 k).1 ho
  have back : ∀ (i : Nat) (o' : AObj), os[i]? = some o' → ∃ ri, (refillOs os m).1[i]? = some ri ∧ kindO ri = kindO o' := fun i o' e => by
    have hi := (List.getElem?_eq_some_iff.1 e).1
    have e2 : (refillOs os m).1[i]? = some ((refillOs os m).1[i]'(by omega)) := List.getElem?_eq_getElem _
    obtain ⟨_, o, o2, _, e3, k, _⟩ := h4 i _ e2
    rw [e] at e3; cases e3
    exact ⟨_, e2, k⟩
  refine ⟨⟨J.fr, J.fz, J.fzb, fun i b hb => J.base i b (own i b hb), fun i p hp => ?_, fun i n v hv => ?_, fun i o ho => ?_, fun i j b hij hi hj => J.apart i j b hij (own i b hi) (own j b hj)⟩, fun b o v hv => hv, fun i p hp => hp, by rw [h2], fun i r hr => ?_, fun i r hr hn => ?_⟩
  · cases e : os[i]? with
    | none => exact absurd e (J.pdom i p hp)
    | some o' => obtain ⟨ri, e2, _⟩ := back i o' e; rw [e2]; simp
  · obtain ⟨t, ver, e, hle⟩ := J.sdom i n v hv
    obtain ⟨ri, e2, k⟩ := back i _ e
    cases ri <;> simp only [kindO, Prod.mk.injEq] at k <;> first | (exact absurd k.1 (by decide)) | skip
    rename_i t' ver'
    obtain ⟨_, rfl⟩ := k
    exact ⟨t', ver', e2, hle⟩
  · have := (h4 i o ho).1
    rwa [Nat.zero_add] at this
  · obtain ⟨_, o, o', e1, e2, k1, k2⟩ := h4 i r hr
    exact ⟨o, e1, k2.trans k1.symm⟩
  · obtain ⟨_, o, o', e1, e2, k1, k2⟩ := h4 i r hr
    cases hp : μs.pl i with
    | none => rfl
    | some p =>
      obtain ⟨o3, e3, hn3⟩ := hco i p hp
      rw [e2] at e3; cases e3
      rw [← kind_vec k1, hn] at hn3; cases hn3
theorem exN_code {e : Ex} {j : Nat} (h : eqI (exCode e) (Int.ofNat j) = true) : exN e = j := by
  simp only [eqI, beq_iff_eq] at h
  cases e with
  | normal =>
    have h : Int.ofNat 0 = Int.ofNat j := h
    simp only [Int.ofNat.injEq] at h
    exact h
  | ret =>
    have h : Int.ofNat 1 = Int.ofNat j := h
    simp only [Int.ofNat.injEq] at h
    exact h
  | exit i =>
    have h : Int.ofNat (i + 2) = Int.ofNat j := h
    simp only [Int.ofNat.injEq] at h
    exact h
theorem exOf_N (e : Ex) : exOf (exN e) = e := by cases e <;> rfl
theorem outE_ok {e : Ex} {k : Nat → E} : ∀ {js : List Nat}, St tb B Φ cE (outE (.int (exCode e)) k js) b μ t c F w → St tb B Φ cE (k (exN e)) b μ t c F w
  | [], s => (St.fail (n := 520) s).elim
  | j :: js, s => by
    have s := St.ite s
    have e1 : (PV.int (exCode e)).i = exCode e := rfl
    rw [e1] at s
    cases h : eqI (exCode e) (Int.ofNat j) with
    | true => rw [h, if_pos rfl] at s; rw [exN_code h]; exact s
    | false => rw [h, if_neg (by simp)] at s; exact outE_ok s
/-- Gone on with at a way out. -/
theorem backE_ok {seen : List Nat} {objs : List AObj} {lv : List Nat} {es2 : Nat → List AV} {e : Ex} {lf : List PV} {outs : List Nat} {k : Ex → AAct → E} {sz : Nat} {ca' : Act} {F1 : Foot} {Q : Exit → Act → World → Prop}
    (s : St tb B Φ cE (backE lv es2 (objs.map (packO tb seen objs)) seen objs sz (some (.int (exCode e), lf)) outs k) b μ t c F1 w) (S : Seen t.look seen objs) (hc : ∀ x ∈ seen, x < c)
    (Bk : BackTo tb (subBs μ t.look seen w) (subMu seen objs μ) (objs.map (packO tb seen objs)) (refillOs (objs.map (packO tb seen objs)) (refillL (es2 (exN e)) lf).2).1 μ3 w')
    (hl : RelL tb μ3 (refillL (es2 (exN e)) lf).1 (liveOf lv ca')) (hs : ca'.tmps.size = sz) (hd : ca'.defers = [])
    (hN : ∀ e a' ca' t' c' F' μ' w', St tb B Φ cE (k e a') b μ' t' c' F' w' → Later μ c μ' c' → ActRel tb μ' a' ca' → Q (exX e) ca' w') : Q (exX e) ca' w' := by
  unfold backE at s
  have s1 := outE_ok s
  obtain ⟨t', F', s3⟩ := St.back s1 S hc Bk
  rw [exOf_N] at s3
  refine hN e _ ca' t' c F' _ w' s3 ⟨Nat.le_refl _, back_ext s.inv Bk S⟩ ⟨?_, putL_ok lv _ _ (fun t => by rw [leaf_at]; exact trivial) (backL_ok Bk S _ _ hl), hd⟩
  rw [putL_sz]; exact hs
theorem normS_ok : ∀ {os : List (Option AV)} {as : List AV} {us : List Value}, RelL tb μ as us → RelL tb μ (normS tb os as) us
  | [], as, us, h => by cases as <;> exact h
  | o :: os, [], us, h => h
  | o :: os, a :: as, us, ⟨v, vs, e, h1, h2⟩ => by
    refine ⟨v, vs, e, ?_, normS_ok h2⟩
    split
    · exact normArg_ok h1
    · exact h1
theorem loopE_ok {code : AAct → (Ex → AAct → E) → E} {x : Code} (hcode : COk P tb code x) {m : Nat} {lv : List Nat} {g : Nat → Bool} {sh : Nat → List (Option AV)} {outs : List Nat} : COk P tb (loopE tb m lv g sh code outs) (.loop x) := by
  intro B Φ cE hΦ a ca k b μ t c F w Q s ra hN
  unfold loopE at s
  obtain ⟨seen, objs, F1, S, hc, s⟩ := reachE_ok s (seen_nil _) (fun x h => by cases h)
  obtain ⟨l0, hl0, s⟩ := St.opt s
  obtain ⟨m0, hm0, s⟩ := St.opt s
  cases hr : loopX m (roundX tb code a.sz lv g (packL seen objs (normS tb (sh 0) (atL a g lv))) (loopSh sh (packL seen objs (normS tb (sh 0) (atL a g lv)))) (objs.map (packO tb seen objs))) (l0 ++ m0) with
  | none => rw [hr] at s; exact absurd (St.ck s).1 (by simp [isAns])
  | some r =>
    obtain ⟨p, lf⟩ := r
    rw [hr] at s
    obtain ⟨_, s⟩ := St.ck s
    have J := s.inv.sub S
    obtain ⟨h1, h2⟩ := conformL_ok _ _ l0 m0 (liveOf lv ca) hl0 (packL_ok (seen := seen) (objs := objs) _ _ (normS_ok (atL_ok ra.tmps lv)))
    refine wp_loop_rounds m (rounds_ok (B := subBs μ t.look seen w) (μs := subMu seen objs μ) hcode (fun i p hp => subMu_nopl hp) (fun e ca' μ' w' hp hne Bk hl hs hd => ?_) m (l0 ++ m0) ca (subMu seen objs μ) w hr ?_ h1 ra.size ra.defers)
    · subst hp
      exact backE_ok s S hc Bk hl hs hd hN
    · rw [h2]
      exact BackTo.self J hm0 (fun i p hp => subMu_nopl hp)
theorem joinE_ok {code : AAct → (Ex → AAct → E) → E} {x : Code} (hcode : COk P tb code x) {lv : List Nat} {g : Nat → Bool} {sh : Nat → List (Option AV)} {outs : List Nat} : COk P tb (joinE tb lv g sh code outs) x := by
  intro B Φ cE hΦ a ca k b μ t c F w Q s ra hN
  unfold joinE at s
  obtain ⟨seen, objs, F1, S, hc, s⟩ := reachE_ok s (seen_nil _) (fun x h => by cases h)
  obtain ⟨l0, hl0, s⟩ := St.opt s
  obtain ⟨m0, hm0, s⟩ := St.opt s
  cases hr : joinX (roundX tb code a.sz lv g (packL seen objs (atL a g lv)) (joinSh sh (packL seen objs (atL a g lv))) (objs.map (packO tb seen objs))) (l0 ++ m0) with
  | none => rw [hr] at s; exact absurd (St.ck s).1 (by simp [isAns])
  | some r =>
    obtain ⟨p, lf⟩ := r
    rw [hr] at s
    obtain ⟨_, s⟩ := St.ck s
    have J := s.inv.sub S
    obtain ⟨h1, h2⟩ := conformL_ok _ _ l0 m0 (liveOf lv ca) hl0 (packL_ok (seen := seen) (objs := objs) _ _ (atL_ok ra.tmps lv))
    refine round_ok (B := subBs μ t.look seen w) (μs := subMu seen objs μ) (μ := subMu seen objs μ) hcode (es2 := joinSh sh (packL seen objs (atL a g lv))) (show roundX tb code a.sz lv g (packL seen objs (atL a g lv)) (joinSh sh (packL seen objs (atL a g lv))) (objs.map (packO tb seen objs)) (l0 ++ m0) (fun c ls' => some (c, ls')) = some (p, lf) from hr) ?_ h1 ra.size ra.defers (fun i p hp => subMu_nopl hp) (fun e ls' ca' μ' w' hK Bk hl hs hd => ?_)
    · rw [h2]
      exact BackTo.self J hm0 (fun i p hp => subMu_nopl hp)
    · simp only [Option.some.injEq, Prod.mk.injEq] at hK
      obtain ⟨rfl, rfl⟩ := hK
      exact backE_ok s S hc Bk hl hs hd hN
theorem codeW_ok (ok : TabOk P tb) {call : FuncId → List AV → (AV → E) → E} (hcall : ∀ (B : Bs) (Φ : Res → Prop) (cE : Nat), (∀ q, Φ q → q.2.2.1 ≤ cE) → CallOk P tb B Φ cE call) {m : Nat} {live : Nat → List Nat} {g : Nat → Bool} {sh : Nat → Nat → List (Option AV)} (x : Code) : COk P tb (codeW tb call m live g sh x) x := by
  induction x with
  | skip => intro B Φ cE hΦ a ca k b μ t c F w Q s ra hN; exact wp_skip (hN .normal a ca t c F μ w s (Later.refl _ _) ra)
  | label l => intro B Φ cE hΦ a ca k b μ t c F w Q s ra hN; exact wp_label (hN .normal a ca t c F μ w s (Later.refl _ _) ra)
  | exit id => intro B Φ cE hΦ a ca k b μ t c F w Q s ra hN; exact wp_exit (hN (.exit id) a ca t c F μ w s (Later.refl _ _) ra)
  | ret => intro B Φ cE hΦ a ca k b μ t c F w Q s ra hN; exact wp_ret (hN .ret a ca t c F μ w s (Later.refl _ _) ra)
  | seq x y ihx ihy =>
    intro B Φ cE hΦ a ca k b μ t c F w Q s ra hN
    have hx : ∃ cx, COk P tb cx x ∧ St tb B Φ cE (cx a fun e a' => (match e with | .normal => codeW tb call m live g sh y a' k | e => k e a')) b μ t c F w := by
      have s : St tb B Φ cE ((fun k' => (match live (1000000 + headId y) with
        | [] => codeW tb call m live g sh x a k'
        | l :: lv => joinE tb (l :: lv) g (sh (1000000 + headId y)) (codeW tb call m live g sh x) (0 :: exitsOf x) a k')) fun e a' => (match e with | .normal => codeW tb call m live g sh y a' k | e => k e a')) b μ t c F w := s
      cases e : live (1000000 + headId y) with
      | nil => rw [e] at s; exact ⟨_, ihx, s⟩
      | cons l lv => rw [e] at s; exact ⟨_, joinE_ok ihx, s⟩
    obtain ⟨cx, hcx, s⟩ := hx
    refine wp_seq (hcx B Φ cE hΦ a ca _ b μ t c F w _ s ra fun e a' ca' t' c' F' μ' w' s' lt ra' => ?_)
    cases e with
    | normal => exact ihy B Φ cE hΦ a' ca' k b μ' t' c' F' w' Q s' ra' fun e a2 ca2 t2 c2 F2 μ2 w2 s2 lt2 ra2 => hN e a2 ca2 t2 c2 F2 μ2 w2 s2 (lt.trans lt2) ra2
    | ret => exact hN .ret a' ca' t' c' F' μ' w' s' lt ra'
    | exit id => exact hN (.exit id) a' ca' t' c' F' μ' w' s' lt ra'
  | cond q x y ihx ihy =>
    intro B Φ cE hΦ a ca k b μ t c F w Q s ra hN
    cases q <;> first | (exact (St.fail (n := 604) s).elim) | skip
    rename_i d
    have s : St tb B Φ cE (match a.at d with
        | .bool b => .ite b (codeW tb call m live g sh x (a.put (some d) (.bool true)) k) (codeW tb call m live g sh y (a.put (some d) (.bool false)) k)
        | _ => .fail 601) b μ t c F w := s
    cases ea : a.at d with
    | bool q =>
      rw [ea] at s
      have s := St.ite s
      have hr := ra.tmps d
      rw [ea] at hr
      have hr : ca.eval (.tmp d) = .bool q := hr
      cases q with
      | true => rw [put_self ea] at s; exact wp_cond_true hr (ihx B Φ cE hΦ a ca k b μ t c F w Q s ra hN)
      | false => rw [put_self ea] at s; exact wp_cond_false hr (ihy B Φ cE hΦ a ca k b μ t c F w Q s ra hN)
    | _ => rw [ea] at s; exact (St.fail (n := 601) s).elim
  | block id x ih =>
    intro B Φ cE hΦ a ca k b μ t c F w Q s ra hN
    refine wp_block (ih B Φ cE hΦ a ca _ b μ t c F w _ s ra fun e a' ca' t' c' F' μ' w' s' lt ra' => ?_)
    cases e with
    | normal => exact hN .normal a' ca' t' c' F' μ' w' s' lt ra'
    | ret => exact hN .ret a' ca' t' c' F' μ' w' s' lt ra'
    | exit j =>
      show if j = id then Q .normal ca' w' else Q (.exit j) ca' w'
      simp only at s'
      by_cases e : j = id
      · rw [if_pos e]
        rw [show Nat.beq j id = true by rw [Nat.beq_eq]; exact e] at s'
        exact hN .normal a' ca' t' c' F' μ' w' s' lt ra'
      · rw [if_neg e]
        have hb : Nat.beq j id = false := by
          cases h : Nat.beq j id with
          | false => rfl
          | true => exact absurd (Nat.eq_of_beq_eq_true h) e
        rw [hb] at s'
        exact hN (.exit j) a' ca' t' c' F' μ' w' s' lt ra'
  | loop x ih => exact loopE_ok ih
  | scope x ih =>
    intro B Φ cE hΦ a ca k b μ t c F w Q s ra hN
    refine wp_scope_straight (ih B Φ cE hΦ a ca k b μ t c F w _ s ra fun e a' ca' t' c' F' μ' w' s' lt ra' => ?_)
    have := hN e a' ca' t' c' F' μ' w' s' lt ra'
    cases e <;> exact this
  | region id ops draw =>
    intro B Φ cE hΦ a ca k b μ t c F w Q s ra hN
    cases draw with
    | true =>
      obtain ⟨hreg, s⟩ := St.when (n := 602) (s := (show St tb B Φ cE (bif regOk ops.toList then regD (opE tb g call) ops.toList ops.toList 0 a [] (fun a' => k .normal a') else .fail 602) b μ t c F w from s))
      refine wp_region_any ok.mixed (regD_ok ok hΦ (fun Φ cE h => hcall B Φ cE h) hreg (s.move (w' := { w with drawn := w.drawn + 1 }) (fun h => h.drew) rfl) ra fun a' t' c' F' μ' w' ca' s' lt ra' => hN .normal a' ca' t' c' F' μ' w' s' lt ra')
    | false => exact wp_region_list (regS_ok ok hΦ (hcall B Φ cE hΦ) ops.toList a ca μ t c F w s ra fun a' t' c' F' μ' w' ca' s' lt ra' => hN .normal a' ca' t' c' F' μ' w' s' lt ra')
  | _ => intro B Φ cE hΦ a ca k b μ t c F w Q s ra hN; first | (exact (St.fail (n := 603) s).elim) | (exact (St.fail (n := 605) s).elim) | (exact (St.fail (n := 606) s).elim)
end
end Px
end

section
namespace Px
open Go Go.RowKit
set_option linter.unusedVariables false
set_option linter.unusedSimpArgs false
/-- The tables tell the program, and its given functions. -/
structure AllOk (P : Program) (tb : Tab) : Prop where
  base : TabOk P tb
  names : ∀ f fn, tb.fn.look f = some fn → fn.name ≠ "runtime.NumGoroutine"
  given : CxOk P tb (fun f args objs => match tb.given f with | some g => g args objs | none => none)
section
variable {P : Program} {tb : Tab} {B : Bs} {Φ : Res → Prop} {cE : Nat} {b : Nat} {μ μs μ3 : Mu} {t : T AObj} {c : Nat} {F : Foot} {w w' : World} {os rs : List AObj} {a : AAct} {ca : Act}
theorem enter_run (ok : AllOk P tb) {f : FuncId} {fn : Func} {code : Code} (hf : tb.fn.look f = some fn) (hb : fn.body = some code) (us : Array Value) (w : World) : (callFunc f us).run P w = .ok (.enter f us) w := by
  have hfn := ok.base.fn f fn hf
  simp [callFunc, hfn, hb, ok.names f fn hf]
theorem callN_ok (ok : AllOk P tb) {cx : FuncId → List AV → List AObj → Ans} (hcx : CxOk P tb cx) {m : Nat} : ∀ (n : Nat) (B : Bs) (Φ : Res → Prop) (cE : Nat), (∀ q, Φ q → q.2.2.1 ≤ cE) → CallOk P tb B Φ cE (callN tb cx m n)
  | 0, B, Φ, cE, hΦ => callIso_ok hcx
  | n + 1, B, Φ, cE, hΦ => by
    intro f args us k b μ t c F w N s ra hN
    have s : St tb B Φ cE (bif tb.inl f then (match tb.fn.look f with
      | some fn => (match fn.body with
        | some c => codeW tb (callN tb cx m n) m (tb.live f) (tb.grow f) (tb.shape f) c (act0 args fn.ntmps) fun e a => (match e with
          | .exit _ => .fail 540
          | _ => resL tb a fn.results.toList fun vs => k (tupleOf vs))
        | none => .fail 541)
      | none => .fail 542) else callIso tb cx f args k) b μ t c F w := s
    cases hi : tb.inl f with
    | false => rw [hi] at s; exact callIso_ok hcx f args us k b μ t c F w N s ra hN
    | true =>
      rw [hi, cond_true] at s
      cases hf : tb.fn.look f with
      | none => rw [hf] at s; exact (St.fail (n := 542) s).elim
      | some fn =>
        rw [hf] at s
        simp only at s
        cases hb : fn.body with
        | none => rw [hb] at s; exact (St.fail (n := 541) s).elim
        | some code =>
          rw [hb] at s
          refine .inr ⟨enter_run ok hf hb _ w, calls_of_wp_defers (ok.base.fn f fn hf) hb ?_⟩
          refine codeW_ok ok.base (callN_ok ok hcx n) code B Φ cE hΦ _ _ _ b μ t c F w _ s (act0_ok ra fn.ntmps) fun e a' ca' t' c' F' μ' w' s' lt ra' => ?_
          have fin : St tb B Φ cE (resL tb a' fn.results.toList fun vs => k (tupleOf vs)) b μ' t' c' F' w' → Leaves P fn ca'.tmps (fun e w' => ∃ v, e = .returned v ∧ N v w') ca'.defers .returning w' := fun s' => by
            obtain ⟨us', vs, μ2, t2, c2, F2, h1, h2, h3, h4⟩ := resL_ok ok.base _ _ μ' t' c' F' w' ra'.tmps s'
            rw [ra'.defers]
            exact ⟨_, results_run h1, _, rfl, hN _ _ _ _ _ _ _ h4 (lt.trans h2) (tuple_rel h3)⟩
          cases e with
          | normal => exact fin s'
          | ret => exact fin s'
          | exit id => exact (St.fail (n := 540) s').elim
theorem normL_ok : ∀ {ts : List TypeId} {vs : List AV} {ps : List PV} {us : List Value} (q : PV) (n : Nat), normL tb ts vs = some ps → RelL tb μ vs us → (∀ i, q.at (n + i) = (PV.node ps).at i) → ResL tb μ.fz ts q n us
  | [], [], ps, us, q, n, h, hr, hq => hr
  | [], _ :: _, ps, us, q, n, h, hr, hq => by simp only [normL] at h; cases h
  | _ :: _, [], ps, us, q, n, h, hr, hq => by simp only [normL] at h; cases h
  | t :: ts, v :: vs, ps, us, q, n, h, hr, hq => by
    simp only [normL] at h
    obtain ⟨u, us', rfl, h1, h2⟩ := hr
    cases e1 : norm tb 20 t v with
    | none => rw [e1] at h; cases h
    | some p =>
      cases e2 : normL tb ts vs with
      | none => rw [e1, e2] at h; cases h
      | some l =>
        rw [e1, e2] at h
        simp only [Option.some.injEq] at h; subst h
        have h0 : q.at n = p := by have := hq 0; rw [Nat.add_zero] at this; rw [this]; rfl
        exact ⟨u, us', rfl, by rw [h0]; exact norm_ok e1 h1, normL_ok q (n + 1) e2 h2 fun i => by rw [show n + 1 + i = n + (i + 1) by omega, hq]; rfl⟩
theorem normL_len : ∀ {ts : List TypeId} {vs : List AV} {ps : List PV}, normL tb ts vs = some ps → ts.length = vs.length ∧ ps.length = vs.length
  | [], [], ps, h => by simp only [normL, Option.some.injEq] at h; subst h; exact ⟨rfl, rfl⟩
  | [], _ :: _, ps, h => by simp only [normL] at h; cases h
  | _ :: _, [], ps, h => by simp only [normL] at h; cases h
  | t :: ts, v :: vs, ps, h => by
    simp only [normL] at h
    cases e1 : norm tb 20 t v with
    | none => rw [e1] at h; cases h
    | some p =>
      cases e2 : normL tb ts vs with
      | none => rw [e1, e2] at h; cases h
      | some l =>
        rw [e1, e2] at h
        simp only [Option.some.injEq] at h; subst h
        obtain ⟨h1, h2⟩ := normL_len e2
        exact ⟨by simp [h1], by simp [h2]⟩
theorem resIs_of {ts : List TypeId} {vs : List AV} {ps : List PV} {us : List Value} (h : normL tb ts vs = some ps) (hr : RelL tb μ vs us) : ResIs tb μ.fz ts (resP ps) (if h : us.toArray.size = 1 then us.toArray[0] else .tuple us.toArray) := by
  obtain ⟨l1, l2⟩ := normL_len h
  have l3 := hr.len
  cases ts with
  | nil => exact trivial
  | cons t ts =>
    cases ts with
    | nil =>
      cases vs with
      | nil => simp at l1
      | cons v vs =>
        cases vs with
        | cons _ _ => simp at l1
        | nil =>
          obtain ⟨u, us', rfl, h1, hnil⟩ := hr
          have hnil : us' = [] := hnil
          subst hnil
          simp only [normL] at h
          cases e1 : norm tb 20 t v with
          | none => rw [e1] at h; cases h
          | some p =>
            rw [e1] at h
            simp only [Option.some.injEq] at h; subst h
            exact norm_ok e1 h1
    | cons t2 ts =>
      rw [dif_neg (by simp at l1; simp [l3, ← l1])]
      have hp : resP ps = .node ps := by
        cases ps with
        | nil => rfl
        | cons a ps =>
          cases ps with
          | nil => simp at l1 l2; omega
          | cons _ _ => rfl
      rw [hp]
      refine ⟨_, rfl, ?_⟩
      have := normL_ok (.node ps) 0 h hr fun i => by rw [Nat.zero_add]
      simpa using this
/-- The end of a function that is run apart. -/
theorem finE_end {q : Res} {args : List AV} {p : PV} (s : St tb B (fun x => x = q) cE (finE tb args os p) b μ t c F w)
    (hxp : ∀ i p, μs.pl i = some p → μ.pl i = some p) (hxf : ∀ b o v, μs.fz b o = some v → μ.fz b o = some v) (hco : ∀ i p, μs.pl i = some p → ∃ o, os[i]? = some o ∧ nonVec o = true) :
    ∃ ls, answerOf q.1 = some (p, ls) ∧ ∃ μ3, BackTo tb B μs os (refillOs os ls).1 μ3 w ∧ μ3.fz = μ.fz := by
  unfold finE at s
  obtain ⟨seen, objs, F1, S, hc, s⟩ := reachE_ok s (seen_nil _) (fun x h => by cases h)
  obtain ⟨hk, s⟩ := St.when s
  obtain ⟨m, hm, s⟩ := St.opt s
  obtain ⟨q', e1, e2⟩ := s.run (some (.tuple (.pv 0 p :: m.map fun q => .pv 0 q), t, c, F1)) (by unfold answer; rw [run_pure]; exact List.mem_singleton.2 rfl)
  simp only [Option.some.injEq] at e1
  subst e1
  subst e2
  exact ⟨m, by show (match pvs (m.map fun q => AV.pv 0 q) with | some ls => some (p, ls) | none => none) = _; rw [pvs_map], subMu seen objs μ, s.inv.close S hk hxp hxf hco hm, rfl⟩
theorem bodyX_ok (ok : AllOk P tb) {cx : FuncId → List AV → List AObj → Ans} (hcx : CxOk P tb cx) {m : Nat} : CxOk P tb (bodyX tb cx m) := by
  intro f fn args objs p ls hf h B μ w us I ra hco
  unfold bodyX at h
  rw [hf] at h
  simp only at h
  cases hb : fn.body with
  | none => rw [hb] at h; cases h
  | some code =>
    rw [hb] at h
    simp only at h
    obtain ⟨q, hrun, hK⟩ := runK_run _ _ _ _ _ _ _ h
    refine ⟨enter_run ok hf hb _ w, calls_of_wp_defers (ok.base.fn f fn hf) hb ?_⟩
    have hall := (show ∀ l : Outs, l = [some q] → All (fun x => x = q) l from fun l e => by subst e; exact fun o ho => ⟨q, List.mem_singleton.1 ho, rfl⟩) _ hrun
    have s : St tb B (fun x => x = q) q.2.2.1 (codeW tb (callN tb cx m 8) m (tb.live f) (tb.grow f) (tb.shape f) code (act0 args fn.ntmps) fun e a => (match e with
        | .exit _ => .fail 543
        | _ => resL tb a fn.results.toList fun vs => opt 544 (normL tb fn.resultTypes.toList vs) fun ps => finE tb args objs (resP ps))) 0 μ (T.ofL objs 0 .leaf) objs.length Foot.empty w :=
      ⟨hall, by rw [sub_look]; exact I, fun x h1 _ => by rw [sub_look]; exact List.getElem?_eq_none h1, Nat.zero_le _, Foot.ok_empty⟩
    refine codeW_ok ok.base (callN_ok ok hcx 8) code B _ _ (fun x e => by rw [e]; exact Nat.le_refl _) _ _ _ 0 μ _ _ _ w _ s (act0_ok ra fn.ntmps) fun e a' ca' t' c' F' μ' w' s' lt ra' => ?_
    have fin : St tb B (fun x => x = q) q.2.2.1 (resL tb a' fn.results.toList fun vs => opt 544 (normL tb fn.resultTypes.toList vs) fun ps => finE tb args objs (resP ps)) 0 μ' t' c' F' w' →
        Leaves P fn ca'.tmps (fun e w' => ∃ v μ3, e = .returned v ∧ BackTo tb B μ objs (refillOs objs ls).1 μ3 w' ∧ ResIs tb μ3.fz fn.resultTypes.toList p v) ca'.defers .returning w' := fun s' => by
      obtain ⟨us', vs, μ2, t2, c2, F2, h1, h2, h3, h4⟩ := resL_ok ok.base _ _ μ' t' c' F' w' ra'.tmps s'
      obtain ⟨ps, hps, s2⟩ := St.opt h4
      have lt2 := lt.trans h2
      obtain ⟨ls', hans, μ3, Bk, hz⟩ := finE_end (μs := μ) s2 (fun i p hp => lt2.ext.pl _ _ hp) (fun b o v hv => lt2.ext.fz _ _ _ hv) hco
      rw [hK] at hans
      simp only [Option.some.injEq, Prod.mk.injEq] at hans
      obtain ⟨rfl, rfl⟩ := hans
      rw [ra'.defers]
      refine ⟨_, results_run h1, _, μ3, rfl, Bk, ?_⟩
      rw [hz]
      exact resIs_of hps h3
    cases e with
    | normal => exact fin s'
    | ret => exact fin s'
    | exit id => exact (St.fail (n := 543) s').elim
/-- What is answered of data is what the functions do. -/
theorem callX_ok (ok : AllOk P tb) : ∀ (k : Nat), CxOk P tb (callX tb k)
  | 0 => fun f fn args objs p ls hf h => absurd (show (none : Ans) = some (p, ls) from h) (by simp)
  | k + 1 => by
    intro f fn args objs p ls hf h
    have h : (match tb.given f with | some g => g args objs | none => bodyX tb (callX tb k) k f args objs) = some (p, ls) := h
    cases hg : tb.given f with
    | some g =>
      rw [hg] at h
      exact ok.given f fn args objs p ls hf (by simp only [hg]; exact h)
    | none =>
      rw [hg] at h
      exact bodyX_ok ok (callX_ok ok k) f fn args objs p ls hf h
end
end Px
end
