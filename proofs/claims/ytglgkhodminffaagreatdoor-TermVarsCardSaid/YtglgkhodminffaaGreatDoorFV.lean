/- What each function's run comes to over data that are not known: printed by a program of ours (wip/px/tool), each equation reckoned by the kernel. -/
import Derived.Test.YtglgkhodminffaaGreatDoorPx3
import Derived.KernelRfl
import Derived.Test.YtglgkhodminffaaGreatDoorProg
namespace Go.Proofs.YtglgkhodminffaaGreatDoor.PV
open Px Go Go.RowKit Go.Proofs
set_option linter.unusedVariables false
noncomputable def mks : Marks := [(5, [(5, [0, 2, 4, 7, 28, 29, 30], [(0, [0, 0, 0, 31, 0, 0, 5]), (2, [0, 0, 0, 31, 1, 1, 1])]), (18, [0, 4, 6, 7, 11, 72, 73, 74], [(0, [0, 0, 1, 0, 0, 0, 0, 5]), (1, [1, 1, 6, 1, 1, 1, 1, 1]), (4, [0, 0, 1, 1, 1, 1, 1, 1])])]),
  (16, [(3, [1, 3, 4], [(0, [0, 5, 5]), (2, [1, 5, 1])])]),
  (18, [(4, [2, 3, 4, 5], [(0, [0, 0, 1, 5]), (1, [1, 1, 6, 1]), (2, [1, 1, 1, 1])])]),
  (19, [(3, [0, 3, 4], [(0, [0, 5, 5]), (2, [1, 5, 1])])]),
  (20, [(4, [0, 3, 5], [(0, [31, 0, 5]), (2, [31, 1, 1])])]),
  (21, [(4, [0, 1, 4, 5], [(0, [0, 0, 1, 5]), (1, [1, 1, 6, 1]), (2, [1, 1, 1, 1])])]),
  (22, [(5, [3, 4, 8, 9, 10], [(0, [0, 0, 0, 0, 5]), (2, [0, 1, 1, 1, 1])])]),
  (23, [(9, [1, 2, 3, 6, 8, 40, 41, 42], [(0, [0, 0, 0, 0, 0, 0, 0, 5]), (2, [1, 1, 0, 0, 0, 1, 1, 1])])]),
  (24, [(2, [1, 2, 3, 6, 7], [(0, [0, 0, 0, 0, 5]), (1, [1, 1, 1, 0, 1]), (2, [0, 0, 0, 0, 1])]), (9, [1, 2, 3, 6, 8, 9], [(0, [0, 0, 0, 0, 0, 5]), (4, [1, 1, 1, 0, 0, 1])])]),
  (26, [(5, [1, 2, 5, 28, 29], [(0, [0, 0, 5, 0, 5]), (2, [1, 1, 5, 1, 1])])]),
  (49, [(4, [2, 22, 23, 24], [(0, [0, 0, 0, 5]), (2, [1, 1, 1, 1])])]),
  (51, [(2, [0, 1, 4, 7, 8], [(0, [0, 0, 1, 0, 5]), (1, [1, 1, 5, 1, 1]), (2, [1, 1, 1, 1, 1])])]),
  (52, [(2, [0, 1, 4, 5], [(0, [0, 0, 1, 5]), (1, [1, 1, 6, 1]), (2, [1, 1, 1, 1])])])]
noncomputable def giv : FuncId → Option (List AV → List AObj → Ans) := fun g => bif Nat.beq g 8 then some aliveG else none
noncomputable def tb : Tab := tabOf Tryz.prog giv (fun _ => false) (fun f b => memN b (assocN [] [(20, [16, 18]), (22, [3]), (24, [8, 52, 53]), (49, [1, 16])] f)) mks
set_option maxRecDepth 100000
-- f5 touchstone/touchstonelaw07.TermVars [22, 24, 29]
noncomputable def F5r0 (cx : FuncId → List AV → List AObj → Ans) (k : Nat) (d0 d1 d2 d3 d4 d5 d6 : PV) (K : PV → List PV → Ans) : Ans :=
  bif (ltI (PV.i d5) (PV.i d4)) then (
  needA (inP (PV.l d3) (PV.i d5)) (
    bindA (cx 20 [(AV.pv 29 d2), (AV.pv 24 (getP (PV.l d3) (PV.i d5)))] []) fun a2 l2 =>
      (K (PV.int (0 : Int)) [d0, d1, a2, d3, (PV.int (PV.i d4)), (PV.int (addW .i64 (PV.i d5) (1 : Int))), d6])))
  else (
  (K (PV.int (2 : Int)) [d0, d1, d2, d6]))
noncomputable def F5r0L (cx : FuncId → List AV → List AObj → Ans) (k : Nat) (ls : List PV) (K : PV → List PV → Ans) : Ans := F5r0 cx k (hd ls) (hd (tl ls)) (hd (tl (tl ls))) (hd (tl (tl (tl ls)))) (hd (tl (tl (tl (tl ls))))) (hd (tl (tl (tl (tl (tl ls)))))) (hd (tl (tl (tl (tl (tl (tl ls))))))) K
noncomputable def F5r1 (cx : FuncId → List AV → List AObj → Ans) (k : Nat) (d0 d1 d2 d3 d4 d5 d6 : PV) (K : PV → List PV → Ans) : Ans :=
  bif (ltI (PV.i d5) (PV.i d4)) then (
  needA (inP (PV.l d3) (PV.i d5)) (
    bindA (cx 25 [(AV.str (PV.s (PV.str (PV.s (getP (PV.l d3) (PV.i d5)))))), (AV.pv 29 d2)] []) fun a2 l2 =>
      bif (notB (PV.b a2)) then (
        bindA (cx 25 [(AV.str (PV.s (PV.str (PV.s (getP (PV.l d3) (PV.i d5)))))), (AV.pv 29 d1)] []) fun a4 l4 =>
          bif (notB (PV.b a4)) then (
            (K (PV.int (1 : Int)) [(PV.bool Bool.false), d6]))
            else (
            (K (PV.int (0 : Int)) [d0, d1, d2, d3, (PV.int (PV.i d4)), (PV.int (addW .i64 (PV.i d5) (1 : Int))), d6])))
        else (
        (K (PV.int (0 : Int)) [d0, d1, d2, d3, (PV.int (PV.i d4)), (PV.int (addW .i64 (PV.i d5) (1 : Int))), d6]))))
  else (
  (K (PV.int (4 : Int)) [d0, d6]))
noncomputable def F5r1L (cx : FuncId → List AV → List AObj → Ans) (k : Nat) (ls : List PV) (K : PV → List PV → Ans) : Ans := F5r1 cx k (hd ls) (hd (tl ls)) (hd (tl (tl ls))) (hd (tl (tl (tl ls)))) (hd (tl (tl (tl (tl ls))))) (hd (tl (tl (tl (tl (tl ls)))))) (hd (tl (tl (tl (tl (tl (tl ls))))))) K
noncomputable def F5 (cx : FuncId → List AV → List AObj → Ans) (k : Nat) (p0 : PV) (p1 : PV) (p2 : PV) : Ans :=
  bindA (cx 19 [(AV.pv 22 p0)] []) fun a0 l0 =>
  bif (notB (PV.b a0)) then (
    bindA (cx 8 [] []) fun a2 l2 =>
      (some ((PV.bool (PV.b a2)), [])))
    else (
    bindA (cx 7 [(AV.pv 24 p1)] []) fun a2 l2 =>
      bif (notB (PV.b a2)) then (
        bindA (cx 8 [] []) fun a4 l4 =>
          (some ((PV.bool (PV.b a4)), [])))
        else (
        bif (ltI (20 : Int) (lenP (PV.l p2))) then (
          bindA (cx 8 [] []) fun a5 l5 =>
            (some ((PV.bool (PV.b a5)), [])))
          else (
          bindA (loopX k (F5r0L cx k) [p0, p2, (PV.node []), p0, (PV.int (lenP (PV.l p0))), (PV.int (0 : Int)), p1]) fun a5 l5 =>
            needA (eqI (PV.i a5) (2 : Int)) (
              bindA (cx 22 [(AV.pv 22 (hd l5))] []) fun a7 l7 =>
                bindA (cx 21 [(AV.pv 29 a7), (AV.pv 29 (hd (tl (tl l5))))] []) fun a8 l8 =>
                  bif (notB (PV.b a8)) then (
                    (some ((PV.bool Bool.false), [])))
                    else (
                    bindA (cx 16 [(AV.pv 24 (hd (tl (tl (tl l5)))))] []) fun a10 l10 =>
                      bif (ltI (60 : Int) (PV.i a10)) then (
                        bif (ltI (0 : Int) (lenP (PV.l (hd l5)))) then (
                          bindA (cx 8 [] []) fun a13 l13 =>
                            (some ((PV.bool (PV.b a13)), [])))
                          else (
                          bif (ltI (20 : Int) (lenP (PV.l (hd l5)))) then (
                            bindA (cx 8 [] []) fun a14 l14 =>
                              (some ((PV.bool (PV.b a14)), [])))
                            else (
                            bindA (cx 23 [(AV.pv 24 (hd (tl (tl (tl l5))))), (AV.pv 29 (hd (tl l5))), (AV.pv 22 (hd l5))] []) fun a14 l14 =>
                              bindA (cx 24 [(AV.pv 24 (hd (tl (tl (tl l5))))), (AV.pv 29 (hd (tl l5))), (AV.pv 22 (hd l5))] []) fun a15 l15 =>
                                bindA (cx 18 [(AV.pv 24 a14), (AV.pv 24 a15)] []) fun a16 l16 =>
                                  bif (notB (PV.b a16)) then (
                                    (some ((PV.bool Bool.false), [])))
                                    else (
                                    bindA (cx 20 [(AV.pv 29 (PV.node [])), (AV.pv 24 (hd (tl (tl (tl l5)))))] []) fun a18 l18 =>
                                      bindA (cx 22 [(AV.pv 22 (PV.node [a14]))] []) fun a19 l19 =>
                                        bindA (loopX k (F5r1L cx k) [(hd l5), (hd (tl (tl l5))), a18, a19, (PV.int (lenP (PV.l a19))), (PV.int (0 : Int)), (hd (tl (tl (tl l5))))]) fun a20 l20 =>
                                          bif (eqI (PV.i a20) (4 : Int)) then (
                                            bindA (cx 23 [(AV.pv 24 (hd (tl l20))), (AV.pv 29 (PV.node [])), (AV.pv 22 (hd l20))] []) fun a22 l22 =>
                                              bindA (cx 18 [(AV.pv 24 a22), (AV.pv 24 (hd (tl l20)))] []) fun a23 l23 =>
                                                bif (PV.b a23) then (
                                                  bindA (cx 8 [] []) fun a25 l25 =>
                                                    (some ((PV.bool (PV.b a25)), [])))
                                                  else (
                                                  (some ((PV.bool Bool.false), []))))
                                            else (
                                            needA (eqI (PV.i a20) (1 : Int)) (
                                              (some ((PV.bool (PV.b (hd l20))), []))))))))
                        else (
                        bif (ltI (20 : Int) (lenP (PV.l (hd l5)))) then (
                          bindA (cx 8 [] []) fun a13 l13 =>
                            (some ((PV.bool (PV.b a13)), [])))
                          else (
                          bindA (cx 23 [(AV.pv 24 (hd (tl (tl (tl l5))))), (AV.pv 29 (hd (tl l5))), (AV.pv 22 (hd l5))] []) fun a13 l13 =>
                            bindA (cx 24 [(AV.pv 24 (hd (tl (tl (tl l5))))), (AV.pv 29 (hd (tl l5))), (AV.pv 22 (hd l5))] []) fun a14 l14 =>
                              bindA (cx 18 [(AV.pv 24 a13), (AV.pv 24 a14)] []) fun a15 l15 =>
                                bif (notB (PV.b a15)) then (
                                  (some ((PV.bool Bool.false), [])))
                                  else (
                                  bindA (cx 20 [(AV.pv 29 (PV.node [])), (AV.pv 24 (hd (tl (tl (tl l5)))))] []) fun a17 l17 =>
                                    bindA (cx 22 [(AV.pv 22 (PV.node [a13]))] []) fun a18 l18 =>
                                      bindA (loopX k (F5r1L cx k) [(hd l5), (hd (tl (tl l5))), a17, a18, (PV.int (lenP (PV.l a18))), (PV.int (0 : Int)), (hd (tl (tl (tl l5))))]) fun a19 l19 =>
                                        bif (eqI (PV.i a19) (4 : Int)) then (
                                          bindA (cx 23 [(AV.pv 24 (hd (tl l19))), (AV.pv 29 (PV.node [])), (AV.pv 22 (hd l19))] []) fun a21 l21 =>
                                            bindA (cx 18 [(AV.pv 24 a21), (AV.pv 24 (hd (tl l19)))] []) fun a22 l22 =>
                                              bif (PV.b a22) then (
                                                bindA (cx 8 [] []) fun a24 l24 =>
                                                  (some ((PV.bool (PV.b a24)), [])))
                                                else (
                                                (some ((PV.bool Bool.false), []))))
                                          else (
                                          needA (eqI (PV.i a19) (1 : Int)) (
                                            (some ((PV.bool (PV.b (hd l19))), []))))))))))))
theorem F5_body (cx : FuncId → List AV → List AObj → Ans) (k : Nat) (p0 : PV) (p1 : PV) (p2 : PV) : bodyX tb cx k 5 [(AV.pv 22 p0), (AV.pv 24 p1), (AV.pv 29 p2)] [] = F5 cx k p0 p1 p2 := by kernel_rfl

-- f7 touchstone/touchstonelaw07.Few [24]
noncomputable def F7 (cx : FuncId → List AV → List AObj → Ans) (k : Nat) (p0 : PV) : Ans :=
  bindA (cx 26 [(AV.pv 24 p0), (AV.int .i64 (PV.i (PV.int (0 : Int))))] []) fun a0 l0 =>
  (some ((PV.bool (leI (PV.i a0) (600 : Int))), []))
theorem F7_body (cx : FuncId → List AV → List AObj → Ans) (k : Nat) (p0 : PV) : bodyX tb cx k 7 [(AV.pv 24 p0)] [] = F7 cx k p0 := by kernel_rfl

-- f19 touchstone/touchstonelaw07.FewAll [22]
noncomputable def F19r0 (cx : FuncId → List AV → List AObj → Ans) (k : Nat) (d0 d1 d2 : PV) (K : PV → List PV → Ans) : Ans :=
  bif (ltI (PV.i d2) (lenP (PV.l d0))) then (
  bif (leI (PV.i d1) (600 : Int)) then (
    needA (inP (PV.l d0) (PV.i d2)) (
      bindA (cx 26 [(AV.pv 24 (getP (PV.l d0) (PV.i d2))), (AV.int .i64 (PV.i (PV.int (0 : Int))))] []) fun a3 l3 =>
        (K (PV.int (0 : Int)) [d0, (PV.int (addW .i64 (PV.i d1) (PV.i a3))), (PV.int (addW .i64 (PV.i d2) (1 : Int)))])))
    else (
    (K (PV.int (2 : Int)) [(PV.int (PV.i d1))])))
  else (
  (K (PV.int (2 : Int)) [(PV.int (PV.i d1))]))
noncomputable def F19r0L (cx : FuncId → List AV → List AObj → Ans) (k : Nat) (ls : List PV) (K : PV → List PV → Ans) : Ans := F19r0 cx k (hd ls) (hd (tl ls)) (hd (tl (tl ls))) K
noncomputable def F19 (cx : FuncId → List AV → List AObj → Ans) (k : Nat) (p0 : PV) : Ans :=
  bindA (loopX k (F19r0L cx k) [p0, (PV.int (0 : Int)), (PV.int (0 : Int))]) fun a0 l0 =>
  needA (eqI (PV.i a0) (2 : Int)) (
    (some ((PV.bool (leI (PV.i (hd l0)) (600 : Int))), [])))
theorem F19_body (cx : FuncId → List AV → List AObj → Ans) (k : Nat) (p0 : PV) : bodyX tb cx k 19 [(AV.pv 22 p0)] [] = F19 cx k p0 := by kernel_rfl

-- f26 touchstone/touchstonelaw07.weight [24, 3]
noncomputable def F26r0 (cx : FuncId → List AV → List AObj → Ans) (k : Nat) (d0 d1 d2 d3 d4 : PV) (K : PV → List PV → Ans) : Ans :=
  bif (ltI (PV.i d3) (PV.i d2)) then (
  bif (ltI (PV.i d1) (100000 : Int)) then (
    needA (inP (PV.l (PV.at d4 4)) (PV.i d3)) (
      bindA (cx 26 [(AV.pv 24 (getP (PV.l (PV.at d4 4)) (PV.i d3))), (AV.int .i64 (PV.i (PV.int (addW .i64 (PV.i d0) (1 : Int)))))] []) fun a3 l3 =>
        (K (PV.int (0 : Int)) [(PV.int (PV.i d0)), (PV.int (addW .i64 (PV.i d1) (PV.i a3))), (PV.int (PV.i d2)), (PV.int (addW .i64 (PV.i d3) (1 : Int))), d4])))
    else (
    (K (PV.int (0 : Int)) [(PV.int (PV.i d0)), (PV.int (PV.i d1)), (PV.int (PV.i d2)), (PV.int (addW .i64 (PV.i d3) (1 : Int))), d4])))
  else (
  (K (PV.int (2 : Int)) [(PV.int (PV.i d1)), d4]))
noncomputable def F26r0L (cx : FuncId → List AV → List AObj → Ans) (k : Nat) (ls : List PV) (K : PV → List PV → Ans) : Ans := F26r0 cx k (hd ls) (hd (tl ls)) (hd (tl (tl ls))) (hd (tl (tl (tl ls)))) (hd (tl (tl (tl (tl ls))))) K
noncomputable def F26 (cx : FuncId → List AV → List AObj → Ans) (k : Nat) (p0 : PV) (p1 : PV) : Ans :=
  bif (ltI (90 : Int) (PV.i p1)) then (
  (some ((PV.int (100000 : Int)), [])))
  else (
  bif (ltI (300 : Int) (lenP (PV.l (PV.at p0 4)))) then (
    (some ((PV.int (100000 : Int)), [])))
    else (
    needA (notB (eqI (20 : Int) (0 : Int))) (
      bindA (loopX k (F26r0L cx k) [(PV.int (PV.i p1)), (PV.int (addW .i64 (1 : Int) (quoW .i64 (addW .i64 (minI (100000 : Int) (lenS (PV.s (PV.at p0 1)))) (minI (100000 : Int) (lenS (PV.s (PV.at p0 2))))) (20 : Int)))), (PV.int (lenP (PV.l (PV.at p0 4)))), (PV.int (0 : Int)), p0]) fun a3 l3 =>
        needA (eqI (PV.i a3) (2 : Int)) (
          (some ((PV.int (minI (100000 : Int) (PV.i (hd l3)))), []))))))
theorem F26_body (cx : FuncId → List AV → List AObj → Ans) (k : Nat) (p0 : PV) (p1 : PV) : bodyX tb cx k 26 [(AV.pv 24 p0), (AV.int .i64 (PV.i p1))] [] = F26 cx k p0 p1 := by kernel_rfl

-- f16 touchstone/touchstoneref07.Size [24]
noncomputable def F16r0 (cx : FuncId → List AV → List AObj → Ans) (k : Nat) (d0 d1 d2 : PV) (K : PV → List PV → Ans) : Ans :=
  bif (ltI (PV.i d1) (lenP (PV.l (PV.at d2 4)))) then (
  needA (inP (PV.l (PV.at d2 4)) (PV.i d1)) (
    bindA (cx 16 [(AV.pv 24 (getP (PV.l (PV.at d2 4)) (PV.i d1)))] []) fun a2 l2 =>
      (K (PV.int (0 : Int)) [(PV.int (addW .i64 (PV.i d0) (PV.i a2))), (PV.int (addW .i64 (PV.i d1) (1 : Int))), d2])))
  else (
  (K (PV.int (2 : Int)) [(PV.int (PV.i d0)), d2]))
noncomputable def F16r0L (cx : FuncId → List AV → List AObj → Ans) (k : Nat) (ls : List PV) (K : PV → List PV → Ans) : Ans := F16r0 cx k (hd ls) (hd (tl ls)) (hd (tl (tl ls))) K
noncomputable def F16 (cx : FuncId → List AV → List AObj → Ans) (k : Nat) (p0 : PV) : Ans :=
  bindA (loopX k (F16r0L cx k) [(PV.int (1 : Int)), (PV.int (0 : Int)), p0]) fun a0 l0 =>
  needA (eqI (PV.i a0) (2 : Int)) (
    (some ((PV.int (PV.i (hd l0))), [])))
theorem F16_body (cx : FuncId → List AV → List AObj → Ans) (k : Nat) (p0 : PV) : bodyX tb cx k 16 [(AV.pv 24 p0)] [] = F16 cx k p0 := by kernel_rfl

-- f18 touchstone/touchstoneref07.Same [24, 24]
noncomputable def F18r0 (cx : FuncId → List AV → List AObj → Ans) (k : Nat) (d0 d1 d2 d3 : PV) (K : PV → List PV → Ans) : Ans :=
  bif (ltI (PV.i d1) (lenP (PV.l (PV.at d2 4)))) then (
  needA (inP (PV.l (PV.at d2 4)) (PV.i d1)) (
    needA (inP (PV.l (PV.at d3 4)) (PV.i d1)) (
      bindA (cx 18 [(AV.pv 24 (getP (PV.l (PV.at d2 4)) (PV.i d1))), (AV.pv 24 (getP (PV.l (PV.at d3 4)) (PV.i d1)))] []) fun a3 l3 =>
        bif (notB (PV.b a3)) then (
          (K (PV.int (1 : Int)) [(PV.bool Bool.false), d2, d3]))
          else (
          (K (PV.int (0 : Int)) [(PV.bool (PV.b d0)), (PV.int (addW .i64 (PV.i d1) (1 : Int))), d2, d3])))))
  else (
  (K (PV.int (2 : Int)) [d2, d3]))
noncomputable def F18r0L (cx : FuncId → List AV → List AObj → Ans) (k : Nat) (ls : List PV) (K : PV → List PV → Ans) : Ans := F18r0 cx k (hd ls) (hd (tl ls)) (hd (tl (tl ls))) (hd (tl (tl (tl ls)))) K
noncomputable def F18 (cx : FuncId → List AV → List AObj → Ans) (k : Nat) (p0 : PV) (p1 : PV) : Ans :=
  bif (notB (eqI (PV.i (PV.at p0 0)) (PV.i (PV.at p1 0)))) then (
  (some ((PV.bool Bool.false), [])))
  else (
  bif (notB (eqS (PV.s (PV.at p0 1)) (PV.s (PV.at p1 1)))) then (
    (some ((PV.bool Bool.false), [])))
    else (
    bif (notB (eqS (PV.s (PV.at p0 2)) (PV.s (PV.at p1 2)))) then (
      (some ((PV.bool Bool.false), [])))
      else (
      bif (notB (eqI (PV.i (PV.at p0 3)) (PV.i (PV.at p1 3)))) then (
        (some ((PV.bool Bool.false), [])))
        else (
        bif (notB (eqI (lenP (PV.l (PV.at p0 4))) (lenP (PV.l (PV.at p1 4))))) then (
          (some ((PV.bool Bool.false), [])))
          else (
          bindA (loopX k (F18r0L cx k) [(PV.bool Bool.false), (PV.int (0 : Int)), p0, p1]) fun a5 l5 =>
            bif (eqI (PV.i a5) (2 : Int)) then (
              (some ((PV.bool Bool.true), [])))
              else (
              needA (eqI (PV.i a5) (1 : Int)) (
                (some ((PV.bool (PV.b (hd l5))), [])))))))))
theorem F18_body (cx : FuncId → List AV → List AObj → Ans) (k : Nat) (p0 : PV) (p1 : PV) : bodyX tb cx k 18 [(AV.pv 24 p0), (AV.pv 24 p1)] [] = F18 cx k p0 p1 := by kernel_rfl

-- f20 touchstone/touchstoneref07.Vars [29, 24]
noncomputable def F20r0 (cx : FuncId → List AV → List AObj → Ans) (k : Nat) (d0 d1 d2 : PV) (K : PV → List PV → Ans) : Ans :=
  bif (ltI (PV.i d1) (lenP (PV.l (PV.at d2 4)))) then (
  needA (inP (PV.l (PV.at d2 4)) (PV.i d1)) (
    bindA (cx 20 [(AV.pv 29 d0), (AV.pv 24 (getP (PV.l (PV.at d2 4)) (PV.i d1)))] []) fun a2 l2 =>
      (K (PV.int (0 : Int)) [a2, (PV.int (addW .i64 (PV.i d1) (1 : Int))), d2])))
  else (
  (K (PV.int (2 : Int)) [d0, d2]))
noncomputable def F20r0L (cx : FuncId → List AV → List AObj → Ans) (k : Nat) (ls : List PV) (K : PV → List PV → Ans) : Ans := F20r0 cx k (hd ls) (hd (tl ls)) (hd (tl (tl ls))) K
noncomputable def F20 (cx : FuncId → List AV → List AObj → Ans) (k : Nat) (p0 : PV) (p1 : PV) : Ans :=
  bif (eqI (PV.i (PV.at p1 0)) (1 : Int)) then (
  bindA (cx 25 [(AV.str (PV.s (PV.str (PV.s (PV.at p1 2))))), (AV.pv 29 p0)] []) fun a1 l1 =>
    bif (notB (PV.b a1)) then (
      needA (smallP [] (PV.l p0)) (
        needA (smallP (appP [] (PV.l p0)) [(PV.str (PV.s (PV.at p1 2)))]) (
          bindA (loopX k (F20r0L cx k) [(PV.node (appP (appP [] (PV.l p0)) [(PV.str (PV.s (PV.at p1 2)))])), (PV.int (0 : Int)), p1]) fun a5 l5 =>
            needA (eqI (PV.i a5) (2 : Int)) (
              (some ((hd l5), []))))))
      else (
      bindA (loopX k (F20r0L cx k) [p0, (PV.int (0 : Int)), p1]) fun a3 l3 =>
        needA (eqI (PV.i a3) (2 : Int)) (
          (some ((hd l3), [])))))
  else (
  bindA (loopX k (F20r0L cx k) [p0, (PV.int (0 : Int)), p1]) fun a1 l1 =>
    needA (eqI (PV.i a1) (2 : Int)) (
      (some ((hd l1), []))))
theorem F20_body (cx : FuncId → List AV → List AObj → Ans) (k : Nat) (p0 : PV) (p1 : PV) : bodyX tb cx k 20 [(AV.pv 29 p0), (AV.pv 24 p1)] [] = F20 cx k p0 p1 := by kernel_rfl

-- f25 touchstone/touchstoneref07.In [9, 29]
noncomputable def F25 (cx : FuncId → List AV → List AObj → Ans) (k : Nat) (p0 : PV) (p1 : PV) : Ans :=
  bindA (cx 52 [(AV.str (PV.s (PV.str (PV.s p0)))), (AV.pv 29 p1)] []) fun a0 l0 =>
  (some ((PV.bool (PV.b a0)), []))
theorem F25_body (cx : FuncId → List AV → List AObj → Ans) (k : Nat) (p0 : PV) (p1 : PV) : bodyX tb cx k 25 [(AV.str (PV.s p0)), (AV.pv 29 p1)] [] = F25 cx k p0 p1 := by kernel_rfl

-- f52 touchstone/touchstoneref06.In [9, 29]
noncomputable def F52r0 (cx : FuncId → List AV → List AObj → Ans) (k : Nat) (d0 d1 d2 d3 : PV) (K : PV → List PV → Ans) : Ans :=
  bif (ltI (PV.i d3) (lenP (PV.l d1))) then (
  needA (inP (PV.l d1) (PV.i d3)) (
    bif (eqS (PV.s (getP (PV.l d1) (PV.i d3))) (PV.s d0)) then (
      (K (PV.int (1 : Int)) [(PV.bool Bool.true)]))
      else (
      (K (PV.int (0 : Int)) [(PV.str (PV.s d0)), d1, (PV.bool (PV.b d2)), (PV.int (addW .i64 (PV.i d3) (1 : Int)))]))))
  else (
  (K (PV.int (2 : Int)) []))
noncomputable def F52r0L (cx : FuncId → List AV → List AObj → Ans) (k : Nat) (ls : List PV) (K : PV → List PV → Ans) : Ans := F52r0 cx k (hd ls) (hd (tl ls)) (hd (tl (tl ls))) (hd (tl (tl (tl ls)))) K
noncomputable def F52 (cx : FuncId → List AV → List AObj → Ans) (k : Nat) (p0 : PV) (p1 : PV) : Ans :=
  bindA (loopX k (F52r0L cx k) [(PV.str (PV.s p0)), p1, (PV.bool Bool.false), (PV.int (0 : Int))]) fun a0 l0 =>
  bif (eqI (PV.i a0) (2 : Int)) then (
    (some ((PV.bool Bool.false), [])))
    else (
    needA (eqI (PV.i a0) (1 : Int)) (
      (some ((PV.bool (PV.b (hd l0))), []))))
theorem F52_body (cx : FuncId → List AV → List AObj → Ans) (k : Nat) (p0 : PV) (p1 : PV) : bodyX tb cx k 52 [(AV.str (PV.s p0)), (AV.pv 29 p1)] [] = F52 cx k p0 p1 := by kernel_rfl

-- f23 touchstone/term.Subst [24, 29, 22]
noncomputable def F23r0 (cx : FuncId → List AV → List AObj → Ans) (k : Nat) (d0 d1 d2 d3 d4 d5 d6 d7 : PV) (K : PV → List PV → Ans) : Ans :=
  bif (ltI (PV.i d4) (PV.i d3)) then (
  needA (inP (PV.l d2) (PV.i d4)) (
    bindA (cx 23 [(AV.pv 24 (getP (PV.l d2) (PV.i d4))), (AV.pv 29 d0), (AV.pv 22 d1)] []) fun a2 l2 =>
      needA (inP (PV.l d7) (PV.i d4)) (
        needA (inP (PV.l d7) (PV.i d4)) (
          (K (PV.int (0 : Int)) [d0, d1, d2, (PV.int (PV.i d3)), (PV.int (addW .i64 (PV.i d4) (1 : Int))), d5, d6, (PV.node (setP (PV.l d7) (PV.i d4) a2))])))))
  else (
  (K (PV.int (2 : Int)) [d5, d6, (PV.node (PV.l d7))]))
noncomputable def F23r0L (cx : FuncId → List AV → List AObj → Ans) (k : Nat) (ls : List PV) (K : PV → List PV → Ans) : Ans := F23r0 cx k (hd ls) (hd (tl ls)) (hd (tl (tl ls))) (hd (tl (tl (tl ls)))) (hd (tl (tl (tl (tl ls))))) (hd (tl (tl (tl (tl (tl ls)))))) (hd (tl (tl (tl (tl (tl (tl ls))))))) (hd (tl (tl (tl (tl (tl (tl (tl ls)))))))) K
noncomputable def F23 (cx : FuncId → List AV → List AObj → Ans) (k : Nat) (p0 : PV) (p1 : PV) (p2 : PV) : Ans :=
  bif (eqI (PV.i (PV.at p0 0)) (1 : Int)) then (
  bindA (cx 51 [(AV.pv 29 p1), (AV.str (PV.s (PV.str (PV.s (PV.at p0 2)))))] []) fun a1 l1 =>
    bif (leI (0 : Int) (PV.i a1)) then (
      bif (ltI (PV.i a1) (lenP (PV.l p2))) then (
        needA (inP (PV.l p2) (PV.i a1)) (
          (some ((getP (PV.l p2) (PV.i a1)), []))))
        else (
        bif (eqI (lenP (PV.l (PV.at p0 4))) (0 : Int)) then (
          (some (p0, [])))
          else (
          needA (cutOk (0 : Int) (lenP (PV.l (PV.at p0 4))) (100000 : Int)) (
            bindA (loopX k (F23r0L cx k) [p1, p2, (PV.at p0 4), (PV.int (lenP (PV.l (PV.at p0 4)))), (PV.int (0 : Int)), p0, (PV.node [(PV.int (0 : Int)), (PV.str []), (PV.str []), (PV.int (0 : Int)), (PV.node [])]), (PV.node (repP (lenP (PV.l (PV.at p0 4))) (PV.node [(PV.int (0 : Int)), (PV.str []), (PV.str []), (PV.int (0 : Int)), (PV.node [])])))]) fun a6 l6 =>
              needA (eqI (PV.i a6) (2 : Int)) (
                (some ((PV.node [(PV.int (PV.i (PV.at (hd l6) 0))), (PV.str (PV.s (PV.at (hd l6) 1))), (PV.str (PV.s (PV.at (hd l6) 2))), (PV.int (PV.i (PV.at (hd l6) 3))), (PV.node (PV.l (hd (tl (tl l6)))))]), [])))))))
      else (
      bif (eqI (lenP (PV.l (PV.at p0 4))) (0 : Int)) then (
        (some (p0, [])))
        else (
        needA (cutOk (0 : Int) (lenP (PV.l (PV.at p0 4))) (100000 : Int)) (
          bindA (loopX k (F23r0L cx k) [p1, p2, (PV.at p0 4), (PV.int (lenP (PV.l (PV.at p0 4)))), (PV.int (0 : Int)), p0, (PV.node [(PV.int (0 : Int)), (PV.str []), (PV.str []), (PV.int (0 : Int)), (PV.node [])]), (PV.node (repP (lenP (PV.l (PV.at p0 4))) (PV.node [(PV.int (0 : Int)), (PV.str []), (PV.str []), (PV.int (0 : Int)), (PV.node [])])))]) fun a5 l5 =>
            needA (eqI (PV.i a5) (2 : Int)) (
              (some ((PV.node [(PV.int (PV.i (PV.at (hd l5) 0))), (PV.str (PV.s (PV.at (hd l5) 1))), (PV.str (PV.s (PV.at (hd l5) 2))), (PV.int (PV.i (PV.at (hd l5) 3))), (PV.node (PV.l (hd (tl (tl l5)))))]), [])))))))
  else (
  bif (eqI (lenP (PV.l (PV.at p0 4))) (0 : Int)) then (
    (some (p0, [])))
    else (
    needA (cutOk (0 : Int) (lenP (PV.l (PV.at p0 4))) (100000 : Int)) (
      bindA (loopX k (F23r0L cx k) [p1, p2, (PV.at p0 4), (PV.int (lenP (PV.l (PV.at p0 4)))), (PV.int (0 : Int)), p0, (PV.node [(PV.int (0 : Int)), (PV.str []), (PV.str []), (PV.int (0 : Int)), (PV.node [])]), (PV.node (repP (lenP (PV.l (PV.at p0 4))) (PV.node [(PV.int (0 : Int)), (PV.str []), (PV.str []), (PV.int (0 : Int)), (PV.node [])])))]) fun a3 l3 =>
        needA (eqI (PV.i a3) (2 : Int)) (
          (some ((PV.node [(PV.int (PV.i (PV.at (hd l3) 0))), (PV.str (PV.s (PV.at (hd l3) 1))), (PV.str (PV.s (PV.at (hd l3) 2))), (PV.int (PV.i (PV.at (hd l3) 3))), (PV.node (PV.l (hd (tl (tl l3)))))]), []))))))
theorem F23_body (cx : FuncId → List AV → List AObj → Ans) (k : Nat) (p0 : PV) (p1 : PV) (p2 : PV) : bodyX tb cx k 23 [(AV.pv 24 p0), (AV.pv 29 p1), (AV.pv 22 p2)] [] = F23 cx k p0 p1 p2 := by kernel_rfl

-- f51 slices.Index[[]string,string] [29, 9]
noncomputable def F51r0 (cx : FuncId → List AV → List AObj → Ans) (k : Nat) (d0 d1 d2 d3 d4 : PV) (K : PV → List PV → Ans) : Ans :=
  bif (ltI (PV.i d4) (PV.i d3)) then (
  needA (inP (PV.l d0) (PV.i d4)) (
    bif (eqS (PV.s d1) (PV.s (getP (PV.l d0) (PV.i d4)))) then (
      (K (PV.int (1 : Int)) [(PV.int (PV.i d4))]))
      else (
      (K (PV.int (0 : Int)) [d0, (PV.str (PV.s d1)), (PV.int (PV.i d2)), (PV.int (PV.i d3)), (PV.int (addW .i64 (PV.i d4) (1 : Int)))]))))
  else (
  (K (PV.int (2 : Int)) []))
noncomputable def F51r0L (cx : FuncId → List AV → List AObj → Ans) (k : Nat) (ls : List PV) (K : PV → List PV → Ans) : Ans := F51r0 cx k (hd ls) (hd (tl ls)) (hd (tl (tl ls))) (hd (tl (tl (tl ls)))) (hd (tl (tl (tl (tl ls))))) K
noncomputable def F51 (cx : FuncId → List AV → List AObj → Ans) (k : Nat) (p0 : PV) (p1 : PV) : Ans :=
  bindA (loopX k (F51r0L cx k) [p0, (PV.str (PV.s p1)), (PV.int (0 : Int)), (PV.int (lenP (PV.l p0))), (PV.int (0 : Int))]) fun a0 l0 =>
  bif (eqI (PV.i a0) (2 : Int)) then (
    (some ((PV.int (-1 : Int)), [])))
    else (
    needA (eqI (PV.i a0) (1 : Int)) (
      (some ((PV.int (PV.i (hd l0))), []))))
theorem F51_body (cx : FuncId → List AV → List AObj → Ans) (k : Nat) (p0 : PV) (p1 : PV) : bodyX tb cx k 51 [(AV.pv 29 p0), (AV.str (PV.s p1))] [] = F51 cx k p0 p1 := by kernel_rfl

-- f50 slices.Contains[[]string,string] [29, 9]
noncomputable def F50 (cx : FuncId → List AV → List AObj → Ans) (k : Nat) (p0 : PV) (p1 : PV) : Ans :=
  bindA (cx 51 [(AV.pv 29 p0), (AV.str (PV.s (PV.str (PV.s p1))))] []) fun a0 l0 =>
  (some ((PV.bool (leI (0 : Int) (PV.i a0))), []))
theorem F50_body (cx : FuncId → List AV → List AObj → Ans) (k : Nat) (p0 : PV) (p1 : PV) : bodyX tb cx k 50 [(AV.pv 29 p0), (AV.str (PV.s p1))] [] = F50 cx k p0 p1 := by kernel_rfl

-- f21 touchstone/touchstoneref01.Texts [29, 29]
noncomputable def F21r0 (cx : FuncId → List AV → List AObj → Ans) (k : Nat) (d0 d1 d2 d3 : PV) (K : PV → List PV → Ans) : Ans :=
  bif (ltI (PV.i d3) (lenP (PV.l d0))) then (
  needA (inP (PV.l d0) (PV.i d3)) (
    needA (inP (PV.l d1) (PV.i d3)) (
      bif (notB (eqS (PV.s (getP (PV.l d0) (PV.i d3))) (PV.s (getP (PV.l d1) (PV.i d3))))) then (
        (K (PV.int (1 : Int)) [(PV.bool Bool.false)]))
        else (
        (K (PV.int (0 : Int)) [d0, d1, (PV.bool (PV.b d2)), (PV.int (addW .i64 (PV.i d3) (1 : Int)))])))))
  else (
  (K (PV.int (2 : Int)) []))
noncomputable def F21r0L (cx : FuncId → List AV → List AObj → Ans) (k : Nat) (ls : List PV) (K : PV → List PV → Ans) : Ans := F21r0 cx k (hd ls) (hd (tl ls)) (hd (tl (tl ls))) (hd (tl (tl (tl ls)))) K
noncomputable def F21 (cx : FuncId → List AV → List AObj → Ans) (k : Nat) (p0 : PV) (p1 : PV) : Ans :=
  bif (notB (eqI (lenP (PV.l p0)) (lenP (PV.l p1)))) then (
  (some ((PV.bool Bool.false), [])))
  else (
  bindA (loopX k (F21r0L cx k) [p0, p1, (PV.bool Bool.false), (PV.int (0 : Int))]) fun a1 l1 =>
    bif (eqI (PV.i a1) (2 : Int)) then (
      (some ((PV.bool Bool.true), [])))
      else (
      needA (eqI (PV.i a1) (1 : Int)) (
        (some ((PV.bool (PV.b (hd l1))), [])))))
theorem F21_body (cx : FuncId → List AV → List AObj → Ans) (k : Nat) (p0 : PV) (p1 : PV) : bodyX tb cx k 21 [(AV.pv 29 p0), (AV.pv 29 p1)] [] = F21 cx k p0 p1 := by kernel_rfl

-- f22 touchstone/term.Vars [22]
noncomputable def F22r0 (cx : FuncId → List AV → List AObj → Ans) (k : Nat) (d0 d1 d2 d3 : PV) (K : PV → List PV → Ans) : Ans :=
  bif (ltI (PV.i d2) (PV.i d1)) then (
  needA (inP (PV.l d0) (PV.i d2)) (
    bindA (cx 49 [(AV.pv 24 (getP (PV.l d0) (PV.i d2))), (AV.ptr (some (0, 0))), (AV.ptr (some (1, 0)))] [(AObj.box 29 (AV.vs 2 0 29 (PV.l d3))), (AObj.box 48 (AV.func (Go.Fn.func 49) [] [(AV.ptr (some (0, 0))), (AV.ptr (some (1, 0)))])), (AObj.vec 29 0)]) fun a2 l2 =>
      (K (PV.int (0 : Int)) [d0, (PV.int (PV.i d1)), (PV.int (addW .i64 (PV.i d2) (1 : Int))), (PV.node (PV.l (hd l2)))])))
  else (
  (K (PV.int (2 : Int)) [(PV.node (PV.l d3))]))
noncomputable def F22r0L (cx : FuncId → List AV → List AObj → Ans) (k : Nat) (ls : List PV) (K : PV → List PV → Ans) : Ans := F22r0 cx k (hd ls) (hd (tl ls)) (hd (tl (tl ls))) (hd (tl (tl (tl ls)))) K
noncomputable def F22 (cx : FuncId → List AV → List AObj → Ans) (k : Nat) (p0 : PV) : Ans :=
  bindA (loopX k (F22r0L cx k) [p0, (PV.int (lenP (PV.l p0))), (PV.int (0 : Int)), (PV.node [])]) fun a0 l0 =>
  needA (eqI (PV.i a0) (2 : Int)) (
    (some ((PV.node (PV.l (hd l0))), [])))
theorem F22_body (cx : FuncId → List AV → List AObj → Ans) (k : Nat) (p0 : PV) : bodyX tb cx k 22 [(AV.pv 22 p0)] [] = F22 cx k p0 := by kernel_rfl

-- f49 touchstone/term.Vars$1 [24]
noncomputable def F49r0 (cx : FuncId → List AV → List AObj → Ans) (k : Nat) (d0 d1 d2 d3 : PV) (K : PV → List PV → Ans) : Ans :=
  bif (ltI (PV.i d2) (PV.i d1)) then (
  needA (inP (PV.l d0) (PV.i d2)) (
    bindA (cx 49 [(AV.pv 24 (getP (PV.l d0) (PV.i d2))), (AV.ptr (some (0, 0))), (AV.ptr (some (1, 0)))] [(AObj.box 29 (AV.vs 2 0 29 (PV.l d3))), (AObj.box 48 (AV.func (Go.Fn.func 49) [] [(AV.ptr (some (0, 0))), (AV.ptr (some (1, 0)))])), (AObj.vec 29 0)]) fun a2 l2 =>
      (K (PV.int (0 : Int)) [d0, (PV.int (PV.i d1)), (PV.int (addW .i64 (PV.i d2) (1 : Int))), (PV.node (PV.l (hd l2)))])))
  else (
  (K (PV.int (2 : Int)) [(PV.node (PV.l d3))]))
noncomputable def F49r0L (cx : FuncId → List AV → List AObj → Ans) (k : Nat) (ls : List PV) (K : PV → List PV → Ans) : Ans := F49r0 cx k (hd ls) (hd (tl ls)) (hd (tl (tl ls))) (hd (tl (tl (tl ls)))) K
noncomputable def F49 (cx : FuncId → List AV → List AObj → Ans) (k : Nat) (p0 : PV) (q : List PV) : Ans :=
  bif (eqI (PV.i (PV.at p0 0)) (1 : Int)) then (
  bindA (cx 50 [(AV.pv 29 (PV.node q)), (AV.str (PV.s (PV.str (PV.s (PV.at p0 2)))))] []) fun a1 l1 =>
    bif (notB (PV.b a1)) then (
      needA (smallP q [(PV.str (PV.s (PV.at p0 2)))]) (
        bindA (loopX k (F49r0L cx k) [(PV.at p0 4), (PV.int (lenP (PV.l (PV.at p0 4)))), (PV.int (0 : Int)), (PV.node (appP q [(PV.str (PV.s (PV.at p0 2)))]))]) fun a4 l4 =>
          needA (eqI (PV.i a4) (2 : Int)) (
            (some ((PV.node []), [(PV.node (PV.l (hd l4)))])))))
      else (
      bindA (loopX k (F49r0L cx k) [(PV.at p0 4), (PV.int (lenP (PV.l (PV.at p0 4)))), (PV.int (0 : Int)), (PV.node q)]) fun a3 l3 =>
        needA (eqI (PV.i a3) (2 : Int)) (
          (some ((PV.node []), [(PV.node (PV.l (hd l3)))])))))
  else (
  bindA (loopX k (F49r0L cx k) [(PV.at p0 4), (PV.int (lenP (PV.l (PV.at p0 4)))), (PV.int (0 : Int)), (PV.node q)]) fun a1 l1 =>
    needA (eqI (PV.i a1) (2 : Int)) (
      (some ((PV.node []), [(PV.node (PV.l (hd l1)))]))))
theorem F49_body (cx : FuncId → List AV → List AObj → Ans) (k : Nat) (p0 : PV) (q : List PV) : bodyX tb cx k 49 [AV.pv 24 p0, .ptr (some (0, 0)), .ptr (some (1, 0))] [AObj.box 29 (.vs 2 0 29 q), AObj.box 48 (.func (Go.Fn.func 49) [] [(AV.ptr (some (0, 0))), (AV.ptr (some (1, 0)))]), AObj.vec 29 0] = F49 cx k p0 q := by kernel_rfl

-- f24 touchstone/touchstoneref07.Subst [24, 29, 22]
noncomputable def F24r0 (cx : FuncId → List AV → List AObj → Ans) (k : Nat) (d0 d1 d2 d3 d4 : PV) (K : PV → List PV → Ans) : Ans :=
  bif (ltI (PV.i d2) (lenP (PV.l d0))) then (
  bif (eqI (PV.i (PV.at d3 0)) (1 : Int)) then (
    needA (inP (PV.l d0) (PV.i d2)) (
      bif (eqS (PV.s (getP (PV.l d0) (PV.i d2))) (PV.s (PV.at d3 2))) then (
        bif (ltI (PV.i d2) (lenP (PV.l d1))) then (
          needA (inP (PV.l d1) (PV.i d2)) (
            (K (PV.int (1 : Int)) [d3, (getP (PV.l d1) (PV.i d2))])))
          else (
          (K (PV.int (2 : Int)) [d0, d1, d3, d4])))
        else (
        (K (PV.int (0 : Int)) [d0, d1, (PV.int (addW .i64 (PV.i d2) (1 : Int))), d3, d4]))))
    else (
    (K (PV.int (2 : Int)) [d0, d1, d3, d4])))
  else (
  (K (PV.int (2 : Int)) [d0, d1, d3, d4]))
noncomputable def F24r0L (cx : FuncId → List AV → List AObj → Ans) (k : Nat) (ls : List PV) (K : PV → List PV → Ans) : Ans := F24r0 cx k (hd ls) (hd (tl ls)) (hd (tl (tl ls))) (hd (tl (tl (tl ls)))) (hd (tl (tl (tl (tl ls))))) K
noncomputable def F24r1 (cx : FuncId → List AV → List AObj → Ans) (k : Nat) (d0 d1 d2 d3 d4 d5 d6 d7 d8 d9 : PV) (K : PV → List PV → Ans) : Ans :=
  bif (ltI (PV.i d2) (lenP (PV.l (PV.at d3 4)))) then (
  needA (inP (PV.l (PV.at d3 4)) (PV.i d2)) (
    bindA (cx 24 [(AV.pv 24 (getP (PV.l (PV.at d3 4)) (PV.i d2))), (AV.pv 29 d0), (AV.pv 22 d1)] []) fun a2 l2 =>
      needA (smallP (PV.l d9) [a2]) (
        (K (PV.int (0 : Int)) [d0, d1, (PV.int (addW .i64 (PV.i d2) (1 : Int))), d3, d4, (PV.int (PV.i d5)), (PV.str (PV.s d6)), (PV.str (PV.s d7)), (PV.int (PV.i d8)), (PV.node (appP (PV.l d9) [a2]))]))))
  else (
  (K (PV.int (4 : Int)) [d3, d4, (PV.int (PV.i d5)), (PV.str (PV.s d6)), (PV.str (PV.s d7)), (PV.int (PV.i d8)), (PV.node (PV.l d9))]))
noncomputable def F24r1L (cx : FuncId → List AV → List AObj → Ans) (k : Nat) (ls : List PV) (K : PV → List PV → Ans) : Ans := F24r1 cx k (hd ls) (hd (tl ls)) (hd (tl (tl ls))) (hd (tl (tl (tl ls)))) (hd (tl (tl (tl (tl ls))))) (hd (tl (tl (tl (tl (tl ls)))))) (hd (tl (tl (tl (tl (tl (tl ls))))))) (hd (tl (tl (tl (tl (tl (tl (tl ls)))))))) (hd (tl (tl (tl (tl (tl (tl (tl (tl ls))))))))) (hd (tl (tl (tl (tl (tl (tl (tl (tl (tl ls)))))))))) K
noncomputable def F24 (cx : FuncId → List AV → List AObj → Ans) (k : Nat) (p0 : PV) (p1 : PV) (p2 : PV) : Ans :=
  bindA (loopX k (F24r0L cx k) [p1, p2, (PV.int (0 : Int)), p0, (PV.node [(PV.int (0 : Int)), (PV.str []), (PV.str []), (PV.int (0 : Int)), (PV.node [])])]) fun a0 l0 =>
  bif (eqI (PV.i a0) (1 : Int)) then (
    (some ((hd (tl l0)), [])))
    else (
    needA (eqI (PV.i a0) (2 : Int)) (
      bindA (loopX k (F24r1L cx k) [(hd l0), (hd (tl l0)), (PV.int (0 : Int)), (hd (tl (tl l0))), (hd (tl (tl (tl l0)))), (PV.int (PV.i (PV.at (hd (tl (tl l0))) 0))), (PV.str (PV.s (PV.at (hd (tl (tl l0))) 1))), (PV.str (PV.s (PV.at (hd (tl (tl l0))) 2))), (PV.int (PV.i (PV.at (hd (tl (tl l0))) 3))), (PV.node [])]) fun a3 l3 =>
        needA (eqI (PV.i a3) (4 : Int)) (
          (some ((PV.node [(PV.int (PV.i (hd (tl (tl l3))))), (PV.str (PV.s (hd (tl (tl (tl l3)))))), (PV.str (PV.s (hd (tl (tl (tl (tl l3))))))), (PV.int (PV.i (hd (tl (tl (tl (tl (tl l3)))))))), (PV.node (PV.l (hd (tl (tl (tl (tl (tl (tl l3)))))))))]), [])))))
theorem F24_body (cx : FuncId → List AV → List AObj → Ans) (k : Nat) (p0 : PV) (p1 : PV) (p2 : PV) : bodyX tb cx k 24 [(AV.pv 24 p0), (AV.pv 29 p1), (AV.pv 22 p2)] [] = F24 cx k p0 p1 p2 := by kernel_rfl

end Go.Proofs.YtglgkhodminffaaGreatDoor.PV
