/- A set of versions that a call makes and keeps to itself (map[api.Version]bool): what a look-up and a store do, over the list of the keys; and the laws that a walk uses. -/
import Derived.Test.YtaikpnenegifnaaGreatDoorXMx2
import Derived.Test.YtaikpnenegifnaaGreatDoorXMx1
import Derived.Maps.Own
import Derived.Maps.OwnOps
import Derived.MapKept
namespace Go.Proofs.YtaikpnenegifnaaGreatDoor
set_option linter.unusedSimpArgs false
set_option linter.unusedVariables false
open Go.RowKit Go.Proofs.YtaikpnenegifnaaGreatDoorW.PrintWords Go.Proofs.YtaikpnenegifnaaGreatDoor.XM

instance : DecidableEq S44 := fun a b => decidable_of_iff (a.f0 = b.f0 ∧ a.f1 = b.f1 ∧ a.f2 = b.f2) (by cases a; cases b; simp)
def vEnc (x : S44) : Value := .agg #[.int .i64 x.f0, .int .i64 x.f1, .int .i64 x.f2]
def vCells (x : S44) : List Value := [.int .i64 x.f0, .int .i64 x.f1, .int .i64 x.f2]

def MapIs (w : World) (b : Nat) (ks : List S44) : Prop := ∃ es clock, w.heap[b]? = some (.map es clock) ∧ es.toList.map (fun e => (e.key, e.val)) = ks.map fun k => (vEnc k, Value.bool true)

theorem check_v (em : Bool) (x : S44) (w : World) : (Instr.checkKey em 10000 44 (vEnc x)).run Tryz.prog w = .ok () w := by
  unfold vEnc
  kernel_rfl
theorem equal_v (x y : S44) (w : World) : (Op.equal 44 (vEnc x) (vEnc y)).run Tryz.prog w = .ok (decide (x = y)) w := by
  have h : (Op.equal 44 (vEnc x) (vEnc y)).run Tryz.prog w = .ok (x.f0 == y.f0 && (x.f1 == y.f1 && (x.f2 == y.f2))) w := eqA44 _ w x.f0 y.f0 x.f1 y.f1 x.f2 y.f2
  have e : (x.f0 == y.f0 && (x.f1 == y.f1 && (x.f2 == y.f2))) = decide (x = y) := by
    rw [Bool.eq_iff_iff]
    simp only [Bool.and_eq_true, beq_iff_eq, decide_eq_true_eq]
    cases x; cases y; simp
  rw [e] at h
  exact h
theorem asking_v (x : S44) (w : World) : ∀ (es : List MapEntry) (ks : List S44) (i : Nat), es.map (fun e => (e.key, e.val)) = ks.map (fun k => (vEnc k, Value.bool true)) →
    (x ∈ ks → ∃ j, (Instr.findAsking 44 (vEnc x) es i).run Tryz.prog w = .ok (some (j, .bool true)) w) ∧ (x ∉ ks → (Instr.findAsking 44 (vEnc x) es i).run Tryz.prog w = .ok none w)
  | [], ks, i, h => by
    have : ks = [] := by simpa using h.symm
    subst this
    exact ⟨fun h => by simp at h, fun _ => rfl⟩
  | e :: es, [], i, h => by simp at h
  | e :: es, k :: ks, i, h => by
    simp only [List.map_cons, List.cons.injEq, Prod.mk.injEq] at h
    obtain ⟨⟨h1, h2⟩, h3⟩ := h
    obtain ⟨i1, i2⟩ := asking_v x w es ks (i + 1) h3
    have he := equal_v x k w
    rw [← h1] at he
    by_cases hx : x = k
    · subst hx
      refine ⟨fun _ => ⟨i, ?_⟩, fun h => absurd (List.mem_cons_self) h⟩
      simp [Instr.findAsking, he, h2, Result.andThen]
    · refine ⟨fun h => ?_, fun h => ?_⟩
      · obtain ⟨j, hj⟩ := i1 (by simpa [hx] using h)
        exact ⟨j, by simp [Instr.findAsking, he, hx, hj, Result.andThen]⟩
      · have := i2 (fun hh => h (by simp [hh]))
        simp [Instr.findAsking, he, hx, this, Result.andThen]
theorem find_v (x : S44) (w : World) (es : List MapEntry) (ks : List S44) (h : es.map (fun e => (e.key, e.val)) = ks.map (fun k => (vEnc k, Value.bool true))) :
    (x ∈ ks → ∃ j, (Instr.findKey 44 (vEnc x) es).run Tryz.prog w = .ok (some (j, .bool true)) w) ∧ (x ∉ ks → (Instr.findKey 44 (vEnc x) es).run Tryz.prog w = .ok none w) := by
  obtain ⟨a1, a2⟩ := asking_v x w es ks 0 h
  have hu := Tryz.underlying44
  cases es with
  | nil =>
    have : ks = [] := by simpa using h.symm
    subst this
    refine ⟨fun h => by simp at h, fun _ => ?_⟩
    simp [Instr.findKey, run_underlying hu, Instr.findNow, Result.andThen]
  | cons e es =>
    have hn : ∀ T, Instr.findNow (.struct T) (vEnc x) (e :: es) 0 = none := fun T => by
      unfold Instr.findNow vEnc
      rfl
    refine ⟨fun hx => ?_, fun hx => ?_⟩
    · obtain ⟨j, hj⟩ := a1 hx
      exact ⟨j, by simp [Instr.findKey, run_underlying hu, hn, hj, Result.andThen]⟩
    · have := a2 hx
      simp [Instr.findKey, run_underlying hu, hn, this, Result.andThen]
theorem zero_bool (w : World) : (zeroValue 4).run Tryz.prog w = .ok (.bool false) w := by kernel_rfl
theorem look_v {w : World} {b : Nat} {ks : List S44} (h : MapIs w b ks) (x : S44) :
    (Instr.lookup 67 (.map (some b)) (vEnc x) false).run Tryz.prog w = .ok (.bool (decide (x ∈ ks))) w := by
  obtain ⟨es, clock, hb, he⟩ := h
  obtain ⟨f1, f2⟩ := find_v x w es.toList ks he
  have hu := Tryz.underlying67
  by_cases hx : x ∈ ks
  · obtain ⟨j, hj⟩ := f1 hx
    simp [Instr.lookup, run_underlying hu, MapKept.run_getObj_map hb, check_v, hj, hx, Result.andThen]
  · have := f2 hx
    simp [Instr.lookup, run_underlying hu, MapKept.run_getObj_map hb, check_v, this, hx, zero_bool, Result.andThen]
theorem store_v {w : World} {b : Nat} {ks : List S44} (h : MapIs w b ks) (x : S44) (hx : x ∉ ks) :
    ∃ w', (Instr.mapUpdate 67 (.map (some b)) (vEnc x) (.bool true)).run Tryz.prog w = .ok () w' ∧ MapIs w' b (ks ++ [x]) ∧ w.grownBy w' (some b) := by
  obtain ⟨es, clock, hb, he⟩ := h
  obtain ⟨f1, f2⟩ := find_v x w es.toList ks he
  have hu := Tryz.underlying67
  have hf := f2 hx
  refine ⟨_, by simp [Instr.mapUpdate, run_underlying hu, MapKept.run_getObj_map hb, check_v, hf, MapKept.run_setObj_map _ hb, Result.andThen]; rfl, ?_, ?_⟩
  · refine ⟨_, _, (MapKept.heap_set hb).1, ?_⟩
    simp [he]
  · exact ⟨rfl, rfl, rfl, by simp, fun k hk hne => (MapKept.heap_set hb).2 k (fun e => hne (by rw [e]))⟩

section
variable {ops : Array Oper} {Q : Exit → Act → World → Prop} {rest : List Oper} {o : Oper} {a : Act} {w : World}
theorem wp_look_v (hg : o.guard = none) (m x : Operand) (hop : o.op = Op.lookup 67 m x false) (b : Nat) (ks : List S44) (hm : a.eval m = .map (some b)) (h : MapIs w b ks) (y : S44) (hx : a.eval x = vEnc y)
    (hK : wpList Tryz.prog ops Q rest (a.put o.dst (.bool (decide (y ∈ ks)))) w) : wpList Tryz.prog ops Q (o :: rest) a w := by
  refine wpList_plain hg fun K' hK' => ?_
  unfold Oper.wp
  simp [execOp, hop, hm, hx, look_v h y, Result.andThen]
  exact hK' _ _ hK
theorem wp_store_v (hg : o.guard = none) (m x v : Operand) (hop : o.op = Op.mapUpdate 67 m x v) (b : Nat) (ks : List S44) (hm : a.eval m = .map (some b)) (h : MapIs w b ks) (y : S44) (hx : a.eval x = vEnc y) (hv : a.eval v = .bool true) (hy : y ∉ ks)
    (hK : ∀ w', MapIs w' b (ks ++ [y]) → w.grownBy w' (some b) → wpList Tryz.prog ops Q rest (a.put o.dst undef) w') : wpList Tryz.prog ops Q (o :: rest) a w := by
  refine wpList_plain hg fun K' hK' => ?_
  obtain ⟨w', hrun, r1, r2⟩ := store_v h y hy
  unfold Oper.wp
  simp [execOp, hop, hm, hx, hv, hrun, Result.andThen]
  exact hK' _ _ (hK w' r1 r2)
end
theorem MapIs.kept {w w' : World} {b : Nat} {ks : List S44} (h : MapIs w b ks) (e : w'.heap[b]? = w.heap[b]?) : MapIs w' b ks := by
  obtain ⟨es, clock, hb, he⟩ := h
  exact ⟨es, clock, e.trans hb, he⟩
theorem MapIs.alloc {w : World} {b : Nat} {ks : List S44} (h : MapIs w b ks) (o : Obj) : MapIs (w.alloc o) b ks := by
  have hl : b < w.heap.size := by
    obtain ⟨es, clock, hb, he⟩ := h
    rcases Nat.lt_or_ge b w.heap.size with hl | hl
    · exact hl
    · rw [Array.getElem?_eq_none hl] at hb
      cases hb
  exact h.kept ((MapKept.heap_alloc w o).2 b hl)
theorem cell_three_new (w : World) (x y z : Value) (T : TypeId) : ∀ j u, ([x, y, z] : List Value)[j]? = some u → (w.alloc (.cells #[x, y, z] T)).cell? ((⟨w.heap.size, 0, none⟩ : Addr).add j) = some u := by
  intro j u h
  match j, h with
  | 0, h => simp at h; subst h; simp [Addr.add]
  | 1, h => simp at h; subst h; simp [Addr.add]
  | 2, h => simp at h; subst h; simp [Addr.add]
  | j + 3, h => simp at h
theorem new_cells {w w1 : World} {x y z : Value} {T : TypeId} {b : Nat} (hg : (w.alloc (.cells #[x, y, z] T)).grownBy w1 (some b)) (hb : b < w.heap.size) :
    w1.cell? ⟨w.heap.size, 0, none⟩ = some x ∧ w1.cell? ⟨w.heap.size, 1, none⟩ = some y ∧ w1.cell? ⟨w.heap.size, 2, none⟩ = some z := by
  have h : w1.heap[w.heap.size]? = some (.cells #[x, y, z] T) := (hg.block _ (by simp) (by intro e; injection e with e; omega)).trans (MapKept.heap_alloc w _).1
  simp [World.cell?, h]
theorem MapIs.lt {w : World} {b : Nat} {ks : List S44} (h : MapIs w b ks) : b < w.heap.size := by
  obtain ⟨es, clock, hb, he⟩ := h
  rcases Nat.lt_or_ge b w.heap.size with hl | hl
  · exact hl
  · rw [Array.getElem?_eq_none hl] at hb
    cases hb
end Go.Proofs.YtaikpnenegifnaaGreatDoor
