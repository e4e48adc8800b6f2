/- Part 22 of the proof that stands in the last text of this folder (lemmas; no statement of its own). -/
import Derived.Test.YtjomjnkapjgheaaDoorK21
section
open Nat renaming reduceBEq → NB, reduceAdd → NA, reduceSub → NS, reduceMul → NM, reduceLT → NL, reduceLeDiff → ND, reduceEqDiff → NE
open Int renaming reduceLT → IL, reduceLE → ID, reduceToNat → IT, reduceEq → IE, reduceBEq → IB, reduceBNe → IN, reduceAdd → IA, reduceSub → IS, reduceNeg → IM
open Bool renaming not_true → BT, not_false → BF
set_option linter.unusedVariables false
set_option maxRecDepth 8000
namespace Go.Proofs.AM
open Go
abbrev dactylref23_Maker_Figure_d0 (g : String → Nat) : List AOper := [⟨some 7, .fa 2 (.tmp 3), none, []⟩,⟨some 8, .load 1 false (.tmp 7), none, [0]⟩,⟨some 9, .mov (.tmp 0), none, []⟩,⟨some 10, .callv (.const (.fn (g "(*dactyl/dactylref23.Maker).Take") [] [])) [(.tmp 9), (.const (.int .i64 4))], none, [2]⟩,⟨some 11, .bin .add .no (.const (.int .i64 24)) (.tmp 10), none, [3, 2]⟩,⟨some 12, .mov (.tmp 0), none, []⟩,⟨some 13, .callv (.const (.fn (g "(*dactyl/dactylref23.Maker).Take") [] [])) [(.tmp 12), (.const (.int .i64 9))], none, [5, 3, 2]⟩,⟨some 14, .bin .add .no (.const (.int .i64 30)) (.tmp 13), none, [6, 5, 3, 2]⟩,⟨some 15, .callv (.const (.fn (g "dactyl/dactylref23.box") [] [])) [(.const (.int .i64 2)), (.const (.int .i64 2)), (.tmp 11), (.tmp 14)], none, [4, 7, 6, 5, 3, 2]⟩,⟨some 16, .build [(.int .i64 0), (.sl true [])] [(0, 1, (.const (.int .i64 2))), (1, 1, (.tmp 15))], none, [8, 4, 7, 6, 5, 3, 2]⟩,⟨some 17, .bsl 2 [(.int .i64 0), (.sl false [])] 1 [(0, (.tmp 16))], none, [9, 8, 4, 7, 6, 5, 3, 2]⟩,⟨some 18, .app 2 32 (.tmp 8) (.tmp 17), none, [1, 0, 10, 9, 8, 4, 7, 6, 5, 3, 2]⟩,⟨some 19, .fa 2 (.tmp 3), none, [11, 1, 0, 10, 9, 8, 4, 7, 6, 5, 3, 2]⟩,⟨none, .store 1 (.tmp 19) (.tmp 18), none, [12, 11, 1, 0, 10, 9, 8, 4, 7, 6, 5, 3, 2]⟩]
abbrev dactylref23_Maker_Figure_k0 : List Nat := [1, 3, 6, 8]
abbrev dactylref23_Maker_Figure_d1 (g : String → Nat) : List AOper := [⟨some 23, .fa 2 (.tmp 3), none, []⟩,⟨some 24, .load 1 false (.tmp 23), none, [0]⟩,⟨some 25, .mov (.tmp 0), none, []⟩,⟨some 26, .callv (.const (.fn (g "(*dactyl/dactylref23.Maker).Take") [] [])) [(.tmp 25), (.const (.int .i64 5))], none, [2]⟩,⟨some 27, .bin .add .no (.const (.int .i64 10)) (.tmp 26), none, [3, 2]⟩,⟨some 28, .mov (.tmp 0), none, []⟩,⟨some 29, .callv (.const (.fn (g "(*dactyl/dactylref23.Maker).Take") [] [])) [(.tmp 28), (.const (.int .i64 8))], none, [5, 3, 2]⟩,⟨some 30, .bin .add .no (.const (.int .i64 12)) (.tmp 29), none, [6, 5, 3, 2]⟩,⟨some 31, .build [(.int .i64 0), (.int .i64 0)] [(0, 1, (.tmp 27)), (1, 1, (.tmp 30))], none, [4, 7, 6, 5, 3, 2]⟩,⟨some 32, .bsl 2 [(.int .i64 0), (.int .i64 0)] 1 [(0, (.tmp 31))], none, [8, 4, 7, 6, 5, 3, 2]⟩,⟨some 33, .build [(.int .i64 0), (.sl true [])] [(0, 1, (.const (.int .i64 0))), (1, 1, (.tmp 32))], none, [9, 8, 4, 7, 6, 5, 3, 2]⟩,⟨some 34, .bsl 2 [(.int .i64 0), (.sl false [])] 1 [(0, (.tmp 33))], none, [10, 9, 8, 4, 7, 6, 5, 3, 2]⟩,⟨some 35, .app 2 32 (.tmp 24) (.tmp 34), none, [1, 0, 11, 10, 9, 8, 4, 7, 6, 5, 3, 2]⟩,⟨some 36, .fa 2 (.tmp 3), none, [12, 1, 0, 11, 10, 9, 8, 4, 7, 6, 5, 3, 2]⟩,⟨none, .store 1 (.tmp 36) (.tmp 35), none, [13, 12, 1, 0, 11, 10, 9, 8, 4, 7, 6, 5, 3, 2]⟩]
abbrev dactylref23_Maker_Figure_k1 : List Nat := [1, 3, 6]
abbrev dactylref23_Maker_Figure_d2 (g : String → Nat) : List AOper := [⟨some 43, .fa 2 (.tmp 3), none, []⟩,⟨some 44, .load 1 false (.tmp 43), none, [0]⟩,⟨some 45, .mov (.tmp 4), none, []⟩,⟨some 46, .build [(.int .i64 0), (.int .i64 0)] [(0, 1, (.tmp 45)), (1, 1, (.const (.int .i64 4)))], none, [2]⟩,⟨some 47, .mov (.tmp 4), none, []⟩,⟨some 48, .bin .add .no (.tmp 47) (.const (.int .i64 8)), none, [4]⟩,⟨some 49, .mov (.tmp 0), none, []⟩,⟨some 50, .callv (.const (.fn (g "(*dactyl/dactylref23.Maker).Take") [] [])) [(.tmp 49), (.const (.int .i64 6))], none, [6]⟩,⟨some 51, .bin .add .no (.const (.int .i64 10)) (.tmp 50), none, [7, 6]⟩,⟨some 52, .build [(.int .i64 0), (.int .i64 0)] [(0, 1, (.tmp 48)), (1, 1, (.tmp 51))], none, [5, 4, 8, 7, 6]⟩,⟨some 53, .mov (.tmp 4), none, []⟩,⟨some 54, .build [(.int .i64 0), (.int .i64 0)] [(0, 1, (.tmp 53)), (1, 1, (.const (.int .i64 30)))], none, [10]⟩,⟨some 55, .bsl 2 [(.int .i64 0), (.int .i64 0)] 3 [(0, (.tmp 46)), (1, (.tmp 52)), (2, (.tmp 54))], none, [3, 2, 9, 5, 4, 8, 7, 6, 11, 10]⟩,⟨some 56, .build [(.int .i64 0), (.sl true [])] [(0, 1, (.const (.int .i64 1))), (1, 1, (.tmp 55))], none, [12, 3, 2, 9, 5, 4, 8, 7, 6, 11, 10]⟩,⟨some 57, .bsl 2 [(.int .i64 0), (.sl false [])] 1 [(0, (.tmp 56))], none, [13, 12, 3, 2, 9, 5, 4, 8, 7, 6, 11, 10]⟩,⟨some 58, .app 2 32 (.tmp 44) (.tmp 57), none, [1, 0, 14, 13, 12, 3, 2, 9, 5, 4, 8, 11, 10, 7, 6]⟩,⟨some 59, .fa 2 (.tmp 3), none, [15, 1, 0, 14, 13, 12, 3, 2, 9, 5, 4, 8, 11, 10, 7, 6]⟩,⟨none, .store 1 (.tmp 59) (.tmp 58), none, [16, 15, 1, 0, 14, 13, 12, 3, 2, 9, 5, 4, 8, 11, 10, 7, 6]⟩]
abbrev dactylref23_Maker_Figure_k2 : List Nat := [1, 7]
abbrev dactylref23_Maker_Figure_d3 (g : String → Nat) : List AOper := [⟨some 60, .fa 2 (.tmp 3), none, []⟩,⟨some 61, .load 1 false (.tmp 60), none, [0]⟩,⟨some 62, .mov (.tmp 4), none, []⟩,⟨some 63, .mov (.tmp 0), none, []⟩,⟨some 64, .callv (.const (.fn (g "(*dactyl/dactylref23.Maker).Take") [] [])) [(.tmp 63), (.const (.int .i64 12))], none, [3]⟩,⟨some 65, .bin .add .no (.const (.int .i64 12)) (.tmp 64), none, [4, 3]⟩,⟨some 66, .callv (.const (.fn (g "dactyl/dactylref23.box") [] [])) [(.tmp 62), (.const (.int .i64 5)), (.const (.int .i64 10)), (.tmp 65)], none, [2, 5, 4, 3]⟩,⟨some 67, .build [(.int .i64 0), (.sl true [])] [(0, 1, (.const (.int .i64 2))), (1, 1, (.tmp 66))], none, [6, 2, 5, 4, 3]⟩,⟨some 68, .bsl 2 [(.int .i64 0), (.sl false [])] 1 [(0, (.tmp 67))], none, [7, 6, 2, 5, 4, 3]⟩,⟨some 69, .app 2 32 (.tmp 61) (.tmp 68), none, [1, 0, 8, 7, 6, 2, 5, 4, 3]⟩,⟨some 70, .fa 2 (.tmp 3), none, [9, 1, 0, 8, 7, 6, 2, 5, 4, 3]⟩,⟨none, .store 1 (.tmp 70) (.tmp 69), none, [10, 9, 1, 0, 8, 7, 6, 2, 5, 4, 3]⟩]
abbrev dactylref23_Maker_Figure_k3 : List Nat := [1, 4, 6]
abbrev dactylref23_Maker_Figure_d4 (g : String → Nat) : List AOper := [⟨some 74, .fa 2 (.tmp 3), none, []⟩,⟨some 75, .load 1 false (.tmp 74), none, [0]⟩,⟨some 76, .build [(.int .i64 0), (.int .i64 0)] [(0, 1, (.const (.int .i64 36))), (1, 1, (.const (.int .i64 44)))], none, []⟩,⟨some 77, .mov (.tmp 0), none, []⟩,⟨some 78, .callv (.const (.fn (g "(*dactyl/dactylref23.Maker).Take") [] [])) [(.tmp 77), (.const (.int .i64 20))], none, [3]⟩,⟨some 79, .bin .add .no (.const (.int .i64 36)) (.tmp 78), none, [4, 3]⟩,⟨some 80, .build [(.int .i64 0), (.int .i64 0)] [(0, 1, (.tmp 79)), (1, 1, (.const (.int .i64 44)))], none, [5, 4, 3]⟩,⟨some 81, .bsl 2 [(.int .i64 0), (.int .i64 0)] 2 [(0, (.tmp 76)), (1, (.tmp 80))], none, [2, 6, 5, 4, 3]⟩,⟨some 82, .build [(.int .i64 0), (.sl true [])] [(0, 1, (.const (.int .i64 1))), (1, 1, (.tmp 81))], none, [7, 2, 6, 5, 4, 3]⟩,⟨some 83, .bsl 2 [(.int .i64 0), (.sl false [])] 1 [(0, (.tmp 82))], none, [8, 7, 2, 6, 5, 4, 3]⟩,⟨some 84, .app 2 32 (.tmp 75) (.tmp 83), none, [1, 0, 9, 8, 7, 2, 6, 5, 4, 3]⟩,⟨some 85, .fa 2 (.tmp 3), none, [10, 1, 0, 9, 8, 7, 2, 6, 5, 4, 3]⟩,⟨none, .store 1 (.tmp 85) (.tmp 84), none, [11, 10, 1, 0, 9, 8, 7, 2, 6, 5, 4, 3]⟩]
abbrev dactylref23_Maker_Figure_k4 : List Nat := [1, 4, 7, 9]
abbrev dactylref23_Maker_Figure_d5 (g : String → Nat) : List AOper := [⟨some 90, .fa 2 (.tmp 3), none, []⟩,⟨some 91, .load 1 false (.tmp 90), none, [0]⟩,⟨some 92, .mov (.tmp 5), none, []⟩,⟨some 93, .iaV (.tmp 91) (.tmp 92) 2, none, [1, 0, 2]⟩,⟨some 94, .fa 1 (.tmp 93), none, [3, 1, 0, 2]⟩,⟨some 95, .load 1 false (.tmp 94), none, [4, 3, 1, 0, 2]⟩,⟨some 96, .fa 2 (.tmp 3), none, []⟩,⟨some 97, .load 1 false (.tmp 96), none, [6]⟩,⟨some 98, .mov (.tmp 5), none, []⟩,⟨some 99, .iaV (.tmp 97) (.tmp 98) 2, none, [7, 6, 8]⟩,⟨some 100, .fa 1 (.tmp 99), none, [9, 7, 6, 8]⟩,⟨some 101, .load 1 false (.tmp 100), none, [10, 9, 7, 6, 8]⟩,⟨some 102, .iaV (.tmp 101) (.const (.int .i64 1)) 2, none, [11, 10, 9, 7, 6, 8]⟩,⟨some 103, .fa 0 (.tmp 102), none, [12, 11, 10, 9, 7, 6, 8]⟩,⟨some 104, .load 1 false (.tmp 103), none, [13, 12, 11, 10, 9, 7, 6, 8]⟩,⟨some 105, .bin .add .no (.tmp 104) (.const (.int .i64 3)), none, [14, 13, 12, 11, 10, 9, 7, 6, 8]⟩,⟨some 106, .iaV (.tmp 95) (.const (.int .i64 1)) 2, none, [5, 4, 3, 1, 0, 2, 15, 14, 13, 12, 11, 10, 9, 7, 6, 8]⟩,⟨some 107, .fa 0 (.tmp 106), none, [16, 5, 4, 3, 1, 0, 2, 15, 14, 13, 12, 11, 10, 9, 7, 6, 8]⟩,⟨none, .store 1 (.tmp 107) (.tmp 105), none, [17, 16, 5, 4, 3, 1, 0, 2, 15, 14, 13, 12, 11, 10, 9, 7, 6, 8]⟩]
abbrev dactylref23_Maker_Figure_k5 : List Nat := []
def dactylref23_Maker_Figure (g : String → Nat) : AFn := ⟨109, [81, 83, 2, 3, 18, 35, 58, 69, 84], [.cell 2 3 true],
  .seq (.region false [⟨some 2, .alloc [(.int .i64 0), (.int .i64 0), (.sl true [])], none, []⟩]) <|
  .seq (.region false [⟨some 6, .build [(.int .i64 0), (.int .i64 0), (.sl true [])] [(0, 1, (.const (.int .i64 60))), (1, 1, (.const (.int .i64 50)))], none, []⟩,
    ⟨some 3, .alloc [(.int .i64 0), (.int .i64 0), (.sl true [])], none, []⟩,
    ⟨none, .store 3 (.tmp 3) (.tmp 6), none, [0, 1]⟩]) <|
  .seq (.region true (dactylref23_Maker_Figure_d0 g)) <|
  .seq (.seq (.region false [⟨some 20, .mov (.tmp 0), none, []⟩,
    ⟨some 21, .callv (.const (.fn (g "(*dactyl/dactylref23.Maker).Take") [] [])) [(.tmp 20), (.const (.int .i64 3))], none, [0]⟩,
    ⟨some 22, .bin .gtr .no (.tmp 21) (.const (.int .i64 0)), none, [1, 0]⟩]) <|
  .cond (.tmp 22) (.region true (dactylref23_Maker_Figure_d1 g))
    (.skip)) <|
  .seq (.region false [⟨some 37, .mov (.tmp 0), none, []⟩,
    ⟨some 38, .callv (.const (.fn (g "(*dactyl/dactylref23.Maker).Take") [] [])) [(.tmp 37), (.const (.int .i64 4))], none, [0]⟩,
    ⟨some 39, .bin .add .no (.const (.int .i64 36)) (.tmp 38), none, [1, 0]⟩,
    ⟨some 4, .mov (.tmp 39), none, [2, 1, 0]⟩]) <|
  .seq (.seq (.region false [⟨some 40, .mov (.tmp 0), none, []⟩,
    ⟨some 41, .callv (.const (.fn (g "(*dactyl/dactylref23.Maker).Take") [] [])) [(.tmp 40), (.const (.int .i64 2))], none, [0]⟩,
    ⟨some 42, .bin .eql .no (.tmp 41) (.const (.int .i64 0)), none, [1, 0]⟩]) <|
  .cond (.tmp 42) (.region true (dactylref23_Maker_Figure_d2 g))
    (.region true (dactylref23_Maker_Figure_d3 g))) <|
  .seq (.seq (.region false [⟨some 71, .mov (.tmp 0), none, []⟩,
    ⟨some 72, .callv (.const (.fn (g "(*dactyl/dactylref23.Maker).Take") [] [])) [(.tmp 71), (.const (.int .i64 3))], none, [0]⟩,
    ⟨some 73, .bin .eql .no (.tmp 72) (.const (.int .i64 0)), none, [1, 0]⟩]) <|
  .cond (.tmp 73) (.seq (.region true (dactylref23_Maker_Figure_d4 g)) <|
    .seq (.region false [⟨some 86, .fa 2 (.tmp 3), none, []⟩,
      ⟨some 87, .load 1 false (.tmp 86), none, [0]⟩,
      ⟨some 88, .lenV (.tmp 87), none, [1, 0]⟩,
      ⟨some 89, .bin .sub .no (.tmp 88) (.const (.int .i64 1)), none, [2, 1, 0]⟩,
      ⟨some 5, .mov (.tmp 89), none, [3, 2, 1, 0]⟩]) <|
    .region true (dactylref23_Maker_Figure_d5 g))
    (.skip)) <|
  .seq (.seq (.frz [(1, 94)]) <|
  .region false [⟨some 108, .load 3 true (.tmp 3), none, []⟩,
    ⟨none, .store 3 (.tmp 2) (.tmp 108), none, [0]⟩]) <|
  .ret⟩
def dactylref23_box (g : String → Nat) : AFn := ⟨30, [], [.tmp 8],
  .seq (.region false [⟨some 8, .mov (.const (.sl true [])), none, []⟩]) <|
  .seq (.region false [⟨some 9, .mov (.tmp 0), none, []⟩,
    ⟨some 10, .mov (.tmp 1), none, []⟩,
    ⟨some 11, .build [(.int .i64 0), (.int .i64 0)] [(0, 1, (.tmp 9)), (1, 1, (.tmp 10))], none, [0, 1]⟩,
    ⟨some 12, .mov (.tmp 0), none, []⟩,
    ⟨some 13, .mov (.tmp 2), none, []⟩,
    ⟨some 14, .bin .add .no (.tmp 12) (.tmp 13), none, [3, 4]⟩,
    ⟨some 15, .mov (.tmp 1), none, []⟩,
    ⟨some 16, .build [(.int .i64 0), (.int .i64 0)] [(0, 1, (.tmp 14)), (1, 1, (.tmp 15))], none, [5, 3, 4, 6]⟩,
    ⟨some 17, .mov (.tmp 0), none, []⟩,
    ⟨some 18, .mov (.tmp 2), none, []⟩,
    ⟨some 19, .bin .add .no (.tmp 17) (.tmp 18), none, [8, 9]⟩,
    ⟨some 20, .mov (.tmp 1), none, []⟩,
    ⟨some 21, .mov (.tmp 3), none, []⟩,
    ⟨some 22, .bin .add .no (.tmp 20) (.tmp 21), none, [11, 12]⟩,
    ⟨some 23, .build [(.int .i64 0), (.int .i64 0)] [(0, 1, (.tmp 19)), (1, 1, (.tmp 22))], none, [10, 8, 9, 13, 11, 12]⟩,
    ⟨some 24, .mov (.tmp 0), none, []⟩,
    ⟨some 25, .mov (.tmp 1), none, []⟩,
    ⟨some 26, .mov (.tmp 3), none, []⟩,
    ⟨some 27, .bin .add .no (.tmp 25) (.tmp 26), none, [16, 17]⟩,
    ⟨some 28, .build [(.int .i64 0), (.int .i64 0)] [(0, 1, (.tmp 24)), (1, 1, (.tmp 27))], none, [15, 18, 16, 17]⟩,
    ⟨some 29, .bsl 2 [(.int .i64 0), (.int .i64 0)] 4 [(0, (.tmp 11)), (1, (.tmp 16)), (2, (.tmp 23)), (3, (.tmp 28))], none, [2, 0, 1, 7, 5, 3, 4, 6, 14, 10, 8, 9, 13, 11, 12, 19, 15, 18, 16, 17]⟩,
    ⟨some 8, .mov (.tmp 29), none, [20, 2, 0, 1, 7, 5, 3, 4, 6, 14, 10, 8, 9, 13, 11, 12, 19, 15, 18, 16, 17]⟩]) <|
  .ret⟩
set_option maxHeartbeats 1600000 in
theorem expr_gen {A : AProg} {g : String → Nat} (h : Has A g "(*dactyl/dactylref23.Maker).Expr" (dactylref23_Maker_Expr g)) (ht : SpecTake A g)
    (htm : ∀ d : Nat, d ≤ 3 → GenSpec A (g "(*dactyl/dactylref23.Maker).term") [vi d] (IsExpr (d + 1))) : GenSpec A (g "(*dactyl/dactylref23.Maker).Expr") [vi 3] (IsExpr 4) := by
  refine h.gen (by simp [dactylref23_Maker_Expr]) (fun n => by kernel_rfl) ?_
  intro l i o v H hl hlt ho
  have h2 : GenSpec A (g "(*dactyl/dactylref23.Maker).term") [vi 2] (IsExpr 3) := htm 2 (by decide)
  have h3 : GenSpec A (g "(*dactyl/dactylref23.Maker).term") [vi 3] (IsExpr 4) := htm 3 (by decide)
  have hw2 : IntKind.i64.wrap 2 = 2 := wrap_i64 (by decide) (by decide)
  simp only [dactylref23_Maker_Expr]
  simp only [go_sem, ↓reduceIte, NB, NA, NL, NE]
  refine gen_call (take_gen ht (m := 4) (by decide)) hl (i := i) (by simp only [go_sem, old_get, hlt, ho]) ?_
  rintro val i1 ⟨x, rfl, hx0, hx1⟩
  simp only [go_sem, ↓reduceIte, hlt, old_set]
  refine branch_intro (fun hb => ?_) (fun hb => ?_)
  · simp only [go_sem, ↓reduceIte, NB, NE, IS, hlt, hw2]
    refine gen_call h2 hl (i := i1) (by simp only [go_sem, old_get_set, hlt]) ?_
    rintro val i2 ⟨a, rfl, ha⟩
    simp only [go_sem, ↓reduceIte, NA, NL, hlt, old_set_set, len_expr3, allCellOk_of_data (data_expr _)]
    refine wc_draw' (keep := dactylref23_Maker_Expr_k0) (by rfl) (by rfl) ?_
    simp only [go_sem, ↓reduceIte, NB, NA, NL, ND, NE, IS, dactylref23_Maker_Expr_k0]
    refine gen_callD (take_gen ht (m := 2) (by decide)) hl (i := i2) (by simp only [go_sem, old_get_set, hlt]) ?_
    rintro val i3 ⟨y, rfl, hy0, hy1⟩
    have hwy : IntKind.i64.wrap (9 + y) = 9 + y := wrap_i64 (by omega) (by omega)
    have htk : ∀ e : Expr, List.take 3 (encExpr e) = encExpr e := fun e => List.take_of_length_le (by rw [len_expr3]; exact Nat.le_refl _)
    have hne : (H.length + 1 == o) = false := by simp; omega
    simp only [go_sem, ↓reduceIte, NA, hlt, old_set_set, hwy, hw2, len_expr3, htk, map_strip1_of_data (data_expr _), allStill_of_data (data_expr _)]
    refine gen_callD h2 hl (i := i3) (by simp only [go_sem, old_get_set, hlt]) ?_
    rintro val i4 ⟨b, rfl, hb2⟩
    simp only [go_sem, ↓reduceIte, NB, NA, BF, hlt, old_set_set, len_expr3, map_strip1_of_data (data_expr _), allStill_of_data (data_expr _), logOk, apartL, hne, orderOk_intro, objUnder_app, underL_of_data (data_expr _), underLL_of_data (dataLL_map data_int _)]
    refine ⟨⟨i4, rfl⟩, .mk (9 + y) 0 [a, b], rfl, .mk _ _ _ _ ⟨by omega, by omega⟩ ⟨by decide, by decide⟩ (by simp) ?_⟩
    intro e he
    simp only [List.mem_cons, List.not_mem_nil, or_false] at he
    rcases he with rfl | rfl
    · exact ha
    · exact hb2
  · simp only [go_sem, ↓reduceIte, NB, NE]
    refine gen_call h3 hl (i := i1) (by simp only [go_sem, old_get_set, hlt]) ?_
    rintro val i2 ⟨a, rfl, ha⟩
    have htk : List.take 3 (encExpr a) = encExpr a := List.take_of_length_le (by rw [len_expr3]; exact Nat.le_refl _)
    simp only [go_sem, ↓reduceIte, NA, hlt, old_set_set, len_expr3, allCellOk_of_data (data_expr _), htk, lendL_of_data (data_expr _), map_strip1_of_data (data_expr _), objUnder_app, underL_of_data (data_expr _), underLL_of_data (dataLL_map data_int _)]
    exact ⟨⟨i2, rfl⟩, a, rfl, ha⟩
end Go.Proofs.AM
end
section
open Nat renaming reduceBEq → NB, reduceAdd → NA, reduceSub → NS, reduceMul → NM, reduceLT → NL, reduceLeDiff → ND, reduceEqDiff → NE
open Int renaming reduceLT → IL, reduceLE → ID, reduceToNat → IT, reduceEq → IE, reduceBEq → IB, reduceBNe → IN, reduceAdd → IA, reduceSub → IS, reduceNeg → IM
open Bool renaming not_true → BT, not_false → BF
set_option linter.unusedVariables false
set_option maxRecDepth 8000
namespace Go.Proofs.AM
open Go
abbrev dactylref23_Maker_Melody_l2 (g : String → Nat) : ACode := .seq (.seq (.region false [⟨some 32, .mov (.tmp 11), none, []⟩,⟨some 33, .mov (.tmp 10), none, []⟩,⟨some 34, .bin .lss .no (.tmp 32) (.tmp 33), none, [0, 1]⟩]) <| .cond (.tmp 34) (.skip) (.exit 4)) <| .seq (.block 5 (.seq (.region false [⟨some 37, .mov (.tmp 0), none, []⟩,⟨some 38, .callv (.const (.fn (g "(*dactyl/dactylref23.Maker).Take") [] [])) [(.tmp 37), (.const (.int .i64 21))], none, [0]⟩,⟨some 39, .bin .add .no (.const (.int .i64 14)) (.tmp 38), none, [1, 0]⟩,⟨some 40, .mov (.tmp 0), none, []⟩,⟨some 41, .callv (.const (.fn (g "(*dactyl/dactylref23.Maker).Take") [] [])) [(.tmp 40), (.const (.int .i64 5))], none, [3, 1, 0]⟩,⟨some 42, .bsl 1 [(.int .i64 0)] 5 [(0, (.const (.int .i64 0))), (1, (.const (.int .i64 0))), (2, (.const (.int .i64 0))), (3, (.const (.int .i64 (-1)))), (4, (.const (.int .i64 1)))], none, []⟩,⟨some 43, .mov (.tmp 0), none, []⟩,⟨some 44, .callv (.const (.fn (g "(*dactyl/dactylref23.Maker).Take") [] [])) [(.tmp 43), (.const (.int .i64 5))], none, [6, 4, 3, 1, 0]⟩,⟨some 45, .iaV (.tmp 42) (.tmp 44) 1, none, [5, 7, 6, 4, 3, 1, 0]⟩,⟨some 46, .load 1 false (.tmp 45), none, [8, 5, 7, 6, 4, 3, 1, 0]⟩,⟨some 47, .build [(.int .i64 0), (.int .i64 0), (.int .i64 0)] [(0, 1, (.tmp 39)), (1, 1, (.tmp 41)), (2, 1, (.tmp 46))], none, [2, 9, 8, 5, 7, 6, 4, 3, 1, 0]⟩,⟨some 12, .alloc [(.int .i64 0), (.int .i64 0), (.int .i64 0)], none, []⟩,⟨none, .store 3 (.tmp 12) (.tmp 47), none, [10, 2, 9, 8, 5, 7, 6, 4, 3, 1, 0, 11]⟩]) <| .seq (.seq (.region false [⟨some 48, .mov (.tmp 0), none, []⟩,⟨some 49, .callv (.const (.fn (g "(*dactyl/dactylref23.Maker).Take") [] [])) [(.tmp 48), (.const (.int .i64 6))], none, [0]⟩,⟨some 50, .bin .eql .no (.tmp 49) (.const (.int .i64 0)), none, [1, 0]⟩]) <| .cond (.tmp 50) (.region false [⟨some 51, .fa 1 (.tmp 12), none, []⟩,⟨some 52, .load 1 false (.tmp 51), none, [0]⟩,⟨some 53, .build [(.int .i64 0), (.int .i64 0), (.int .i64 0)] [(0, 1, (.const (.int .i64 (-1)))), (1, 1, (.tmp 52))], none, [1, 0]⟩,⟨none, .store 3 (.tmp 12) (.tmp 53), none, [2, 1, 0]⟩]) (.skip)) <| .region false [⟨some 54, .mov (.tmp 9), none, []⟩,⟨some 55, .load 3 true (.tmp 12), none, []⟩,⟨some 56, .bsl 3 [(.int .i64 0), (.int .i64 0), (.int .i64 0)] 1 [(0, (.tmp 55))], none, [1]⟩,⟨some 57, .app 3 24 (.tmp 54) (.tmp 56), none, [0, 2, 1]⟩,⟨some 9, .mov (.tmp 57), none, [3, 0, 2, 1]⟩])) <| .region false [⟨some 35, .mov (.tmp 11), none, []⟩,⟨some 36, .bin .add .no (.tmp 35) (.const (.int .i64 1)), none, [0]⟩,⟨some 11, .mov (.tmp 36), none, [1, 0]⟩]
abbrev dactylref23_Maker_Melody_w2 : List Nat := [32, 33, 34, 37, 38, 39, 40, 41, 42, 43, 44, 45, 46, 47, 12, 48, 49, 50, 51, 52, 53, 54, 55, 56, 57, 9, 35, 36, 11]
abbrev dactylref23_Maker_Melody_l1 (g : String → Nat) : ACode := .seq (.seq (.region false [⟨some 24, .mov (.tmp 8), none, []⟩,⟨some 25, .mov (.tmp 5), none, []⟩,⟨some 26, .bin .lss .no (.tmp 24) (.tmp 25), none, [0, 1]⟩]) <| .cond (.tmp 26) (.skip) (.exit 2)) <| .seq (.block 3 (.seq (.region false [⟨some 9, .mov (.const (.sl true [])), none, []⟩]) <| .seq (.region false [⟨some 29, .mov (.tmp 0), none, []⟩,⟨some 30, .callv (.const (.fn (g "(*dactyl/dactylref23.Maker).Take") [] [])) [(.tmp 29), (.const (.int .i64 4))], none, [0]⟩,⟨some 31, .bin .add .no (.const (.int .i64 1)) (.tmp 30), none, [1, 0]⟩,⟨some 10, .mov (.tmp 31), none, [2, 1, 0]⟩]) <| .seq (.seq (.region false [⟨some 11, .mov (.const (.int .i64 0)), none, []⟩]) <| .block 4 (.loop (dactylref23_Maker_Melody_l2 g))) <| .region false [⟨some 58, .mov (.tmp 7), none, []⟩,⟨some 59, .mov (.tmp 9), none, []⟩,⟨some 60, .bsl 1 [(.sl false [])] 1 [(0, (.tmp 59))], none, [1]⟩,⟨some 61, .app 1 24 (.tmp 58) (.tmp 60), none, [0, 2, 1]⟩,⟨some 7, .mov (.tmp 61), none, [3, 0, 2, 1]⟩])) <| .region false [⟨some 27, .mov (.tmp 8), none, []⟩,⟨some 28, .bin .add .no (.tmp 27) (.const (.int .i64 1)), none, [0]⟩,⟨some 8, .mov (.tmp 28), none, [1, 0]⟩]
abbrev dactylref23_Maker_Melody_w1 : List Nat := [24, 25, 26, 9, 29, 30, 31, 10, 11, 32, 33, 34, 37, 38, 39, 40, 41, 42, 43, 44, 45, 46, 47, 12, 48, 49, 50, 51, 52, 53, 54, 55, 56, 57, 9, 35, 36, 11, 58, 59, 60, 61, 7, 27, 28, 8]
abbrev dactylref23_Maker_Melody_l0 (g : String → Nat) : ACode := .seq (.seq (.region false [⟨some 19, .mov (.tmp 6), none, []⟩,⟨some 20, .mov (.tmp 4), none, []⟩,⟨some 21, .bin .lss .no (.tmp 19) (.tmp 20), none, [0, 1]⟩]) <| .cond (.tmp 21) (.skip) (.exit 0)) <| .seq (.block 1 (.seq (.region false [⟨some 7, .mov (.const (.sl true [])), none, []⟩]) <| .seq (.seq (.region false [⟨some 8, .mov (.const (.int .i64 0)), none, []⟩]) <| .block 2 (.loop (dactylref23_Maker_Melody_l1 g))) <| .region false [⟨some 62, .fa 0 (.tmp 3), none, []⟩,⟨some 63, .load 1 false (.tmp 62), none, [0]⟩,⟨some 64, .mov (.tmp 7), none, []⟩,⟨some 65, .bsl 1 [(.sl false [])] 1 [(0, (.tmp 64))], none, [2]⟩,⟨some 66, .app 1 24 (.tmp 63) (.tmp 65), none, [1, 0, 3, 2]⟩,⟨some 67, .fa 0 (.tmp 3), none, [4, 1, 0, 3, 2]⟩,⟨none, .store 1 (.tmp 67) (.tmp 66), none, [5, 4, 1, 0, 3, 2]⟩])) <| .region false [⟨some 22, .mov (.tmp 6), none, []⟩,⟨some 23, .bin .add .no (.tmp 22) (.const (.int .i64 1)), none, [0]⟩,⟨some 6, .mov (.tmp 23), none, [1, 0]⟩]
abbrev dactylref23_Maker_Melody_w0 : List Nat := [19, 20, 21, 7, 8, 24, 25, 26, 9, 29, 30, 31, 10, 11, 32, 33, 34, 37, 38, 39, 40, 41, 42, 43, 44, 45, 46, 47, 12, 48, 49, 50, 51, 52, 53, 54, 55, 56, 57, 9, 35, 36, 11, 58, 59, 60, 61, 7, 27, 28, 8, 62, 63, 64, 65, 66, 67, 22, 23, 6]
def dactylref23_Maker_Melody (g : String → Nat) : AFn := ⟨69, [2, 3, 12, 57, 61, 66], [.cell 2 1 true],
  .seq (.region false [⟨some 2, .alloc [(.sl true [])], none, []⟩]) <|
  .seq (.region false [⟨some 3, .alloc [(.sl true [])], none, []⟩]) <|
  .seq (.region false [⟨some 13, .mov (.tmp 0), none, []⟩,
    ⟨some 14, .callv (.const (.fn (g "(*dactyl/dactylref23.Maker).Take") [] [])) [(.tmp 13), (.const (.int .i64 2))], none, [0]⟩,
    ⟨some 15, .bin .add .no (.const (.int .i64 1)) (.tmp 14), none, [1, 0]⟩,
    ⟨some 4, .mov (.tmp 15), none, [2, 1, 0]⟩]) <|
  .seq (.region false [⟨some 16, .mov (.tmp 0), none, []⟩,
    ⟨some 17, .callv (.const (.fn (g "(*dactyl/dactylref23.Maker).Take") [] [])) [(.tmp 16), (.const (.int .i64 3))], none, [0]⟩,
    ⟨some 18, .bin .add .no (.const (.int .i64 1)) (.tmp 17), none, [1, 0]⟩,
    ⟨some 5, .mov (.tmp 18), none, [2, 1, 0]⟩]) <|
  .seq (.seq (.region false [⟨some 6, .mov (.const (.int .i64 0)), none, []⟩]) <|
  .block 0 (.loop (dactylref23_Maker_Melody_l0 g))) <|
  .seq (.region false [⟨some 68, .load 1 true (.tmp 3), none, []⟩,
    ⟨none, .store 1 (.tmp 2) (.tmp 68), none, [0]⟩]) <|
  .ret⟩
abbrev MNote (n : Note) : Prop := n.Ok
abbrev MBar (b : List Note) : Prop := 1 ≤ b.length ∧ b.length ≤ 4 ∧ ∀ n ∈ b, n.Ok
abbrev MHand (h : List (List Note)) : Prop := 1 ≤ h.length ∧ h.length ≤ 3 ∧ ∀ b ∈ h, MBar b
abbrev IsMelody (v : AV) : Prop := ∃ m : List (List (List Note)), v = .agg [.sl false (m.map encHand)] ∧ 1 ≤ m.length ∧ m.length ≤ 2 ∧ ∀ h ∈ m, MHand h
theorem GSl.lendF {id k : Nat} {rows : List (List AV)} {v : AV} {o : AObj} (h : GSl id k rows v o) (hne : rows ≠ []) (hd : dataLL rows = true) :
    ∃ l o', (∀ H, H[id]? = some o → lend1 H v = some (.sl false rows, l)) ∧ (∀ H, H[id]? = some o → Go.Proofs.AM.lend H v = some (.sl false rows, l)) ∧ (∀ H, H[id]? = some o → goneAll H l = H.set id o') ∧ (∀ b wr, b ≤ id → addWr b wr l = wr) := by
  obtain ⟨ver, rfl, rfl⟩ := h.inv hne
  obtain ⟨f, l, o', h1, h2, h3⟩ := h.lend hd
  cases h with
  | obj =>
    have key : ∀ H : List AObj, H[id]? = some (.vec ver k rows) → lend1 H (.sr id ver rows.length) = some (.sl false rows, [id]) := by
      intro H ho
      show (match H[id]? with
        | some (.vec v' _ rows') => if v' = ver ∧ rows'.length = rows.length ∧ rows'.all (fun r => r.all AV.still) then some (AV.sl false rows', [id]) else none
        | _ => none) = _
      rw [ho]
      simp only [allStill_rows hd, and_self, if_true]
    refine ⟨[id], .gone ver, key, key, fun H ho => ?_, fun b wr hb => ?_⟩
    · simp only [goneAll, ho]; rfl
    · unfold addWr
      rw [if_neg (by omega)]
      rfl
theorem ne_of_len {α β : Type} {f : α → β} {l : List α} (h : 1 ≤ l.length) : l.map f ≠ [] := by
  intro hn
  have := congrArg List.length hn
  simp only [List.length_map, List.length_nil] at this
  omega
theorem mel_notes_gen {A : AProg} {g : String → Nat} (ht : SpecTake A g) {H : List AObj} {Q : AExit → SEnv → List AObj → List Nat → Prop} {tg} {l : List Int} (hl : ListOk l) {o v : Nat} (hlt : o < H.length)
    {i : Int} {o0 o1 o2 o3 o4 o5 : AObj} {c : Int} (hc0 : 1 ≤ c) (hc1 : c ≤ 4) {ρ : SEnv} (e0 : ρ 0 = .ptr o v 0) (e10 : ρ 10 = vi c) (e9 : ρ 9 = .sl true []) (e11 : ρ 11 = vi 0)
    (hQ : ∀ ρ' i' o2 o3 (r : List Note), (∀ t, dactylref23_Maker_Melody_w2.contains t = false → ρ' t = ρ t) → MBar r → GSl (H.length + 3) 3 (r.map encNote) (ρ' 9) o3 → Q (.exit 4) ρ' (H.set o (.box v (makerCells l i')) ++ [o0, o1, o2, o3, o4, o5]) [o]) :
    wl A 69 ⟨H.length, [2, 3, 12, 57, 61, 66]⟩ (dactylref23_Maker_Melody_l2 g) ρ (H.set o (.box v (makerCells l i)) ++ [o0, o1, o2, o3, o4, o5]) [o] Q tg := by
  refine wl_for2 (W := dactylref23_Maker_Melody_w2) (fun j ρ1 H1 wr => wr = [o] ∧ ρ1 11 = vi j ∧ ∃ i' o2 o3, ∃ r : List Note, H1 = H.set o (.box v (makerCells l i')) ++ [o0, o1, o2, o3, o4, o5] ∧ GSl (H.length + 3) 3 (r.map encNote) (ρ1 9) o3 ∧ r.length = j ∧ ∀ a ∈ r, a.Ok) c.toNat
    (fun ρ1 H1 wr => wr = [o] ∧ ∃ i' o2 o3, ∃ r : List Note, H1 = H.set o (.box v (makerCells l i')) ++ [o0, o1, o2, o3, o4, o5] ∧ GSl (H.length + 3) 3 (r.map encNote) (ρ1 9) o3 ∧ MBar r)
    (by kernel_rfl) (by rfl) ⟨rfl, e11, i, o2, o3, [], rfl, by rw [e9]; exact .nil _, rfl, by simp⟩ ?_ (by
      rintro ρ' H' wr' ⟨rfl, i', o2, o3, r, rfl, hg, hr⟩ hf
      exact hQ ρ' i' o2 o3 r hf hr hg)
  rintro j ρ1 H1 wr1 hjl ⟨rfl, e11, i', o2, o3, r, rfl, hg, hrl, hro⟩ hf
  have f0 : ρ1 0 = .ptr o v 0 := (hf 0 (by decide)).trans e0
  have f10 : ρ1 10 = vi c := (hf 10 (by decide)).trans e10
  simp only [go_sem, NB, IM, f10, e11]
  refine branch_intro (fun hb => ?_) (fun hb => ?_)
  · have hlt2 : j < c.toNat := by simp at hb; omega
    simp only [go_sem, ↓reduceIte, NB, NA, NL, ND, NE, IM, f0]
    refine gen_call (take_gen ht (m := 21) (by decide)) hl (i := i') (by simp only [go_sem, old_get_set, hlt]) ?_
    rintro val i2 ⟨x, rfl, hx0, hx1⟩
    have hwx : IntKind.i64.wrap (14 + x) = 14 + x := wrap_i64 (by omega) (by omega)
    simp only [go_sem, ↓reduceIte, NA, ND, IM, hlt, old_set_set, hwx]
    refine gen_call (take_gen ht (m := 5) (by decide)) hl (i := i2) (by simp only [go_sem, old_get_set, hlt]) ?_
    rintro val i3 ⟨y, rfl, hy0, hy1⟩
    simp only [go_sem, ↓reduceIte, NA, IM, hlt, old_set_set]
    refine gen_call (take_gen ht (m := 5) (by decide)) hl (i := i3) (by simp only [go_sem, old_get_set, hlt]) ?_
    rintro val i4 ⟨z, rfl, hz0, hz1⟩
    obtain ⟨n, hn, htab⟩ := tabI [0, 0, 0, -1, 1] hz0 hz1
    simp only [List.map, encInt] at htab
    have hnb : -1 ≤ n ∧ n ≤ 1 := by
      have : ∀ n ∈ ([0, 0, 0, -1, 1] : List Int), -1 ≤ n ∧ n ≤ 1 := by decide
      exact this _ hn
    simp only [go_sem, ↓reduceIte, NA, NL, IM, hlt, old_set_set, hz0, htab]
    refine gen_call (take_gen ht (m := 6) (by decide)) hl (i := i4) (by simp only [go_sem, old_get_set, hlt]) ?_
    rintro val i5 ⟨w, rfl, hw0, hw1⟩
    simp only [go_sem, ↓reduceIte, IM, hlt, old_set_set]
    refine branch_intro (fun hb2 => ?_) (fun hb2 => ?_)
    · obtain ⟨v', o', hg', happ⟩ := hg.app (new := [[vi (-1), vi y, vi 0]]) (bytes := 24) (by simp) (by rfl) (by rw [List.length_map, hrl]; simp; omega)
      rw [show r.map encNote ++ [[vi (-1), vi y, vi 0]] = (r ++ [Note.mk (-1) y 0]).map encNote by simp [encNote]] at hg'
      simp only [go_sem, ↓reduceIte, NB, NA, NL, ND, NE, IM, happ, e11]
      rw [wrap_succ (by omega)]
      refine ⟨hlt2, rfl, i5, _, o', r ++ [Note.mk (-1) y 0], rfl, hg', by simp [hrl], ?_⟩
      intro a ha
      rcases List.mem_append.1 ha with ha | ha
      · exact hro a ha
      · have : a = Note.mk (-1) y 0 := by simpa using ha
        subst this
        exact ⟨⟨by show -9223372036854775808 ≤ (-1 : Int); omega, by show (-1 : Int) ≤ 9223372036854775807; omega⟩,⟨by show -9223372036854775808 ≤ y; omega, by show y ≤ 9223372036854775807; omega⟩,⟨by show -9223372036854775808 ≤ (0 : Int); omega, by show (0 : Int) ≤ 9223372036854775807; omega⟩⟩
    · obtain ⟨v', o', hg', happ⟩ := hg.app (new := [[vi (14 + x), vi y, vi n]]) (bytes := 24) (by simp) (by rfl) (by rw [List.length_map, hrl]; simp; omega)
      rw [show r.map encNote ++ [[vi (14 + x), vi y, vi n]] = (r ++ [Note.mk (14 + x) y n]).map encNote by simp [encNote]] at hg'
      simp only [go_sem, ↓reduceIte, NB, NA, NL, NE, IM, happ, e11]
      rw [wrap_succ (by omega)]
      refine ⟨hlt2, rfl, i5, _, o', r ++ [Note.mk (14 + x) y n], rfl, hg', by simp [hrl], ?_⟩
      intro a ha
      rcases List.mem_append.1 ha with ha | ha
      · exact hro a ha
      · have : a = Note.mk (14 + x) y n := by simpa using ha
        subst this
        exact ⟨⟨by show -9223372036854775808 ≤ (14 + x : Int); omega, by show (14 + x : Int) ≤ 9223372036854775807; omega⟩,⟨by show -9223372036854775808 ≤ y; omega, by show y ≤ 9223372036854775807; omega⟩,⟨by show -9223372036854775808 ≤ (n : Int); omega, by show (n : Int) ≤ 9223372036854775807; omega⟩⟩
  · have hlt2 : j = c.toNat := by simp at hb; omega
    subst hlt2
    simp only [go_sem, NB, IM]
    exact ⟨i', o2, o3, r, rfl, hg, by omega, by omega, hro⟩
theorem mel_bars_gen {A : AProg} {g : String → Nat} (ht : SpecTake A g) {H : List AObj} {Q : AExit → SEnv → List AObj → List Nat → Prop} {tg} {l : List Int} (hl : ListOk l) {o v : Nat} (hlt : o < H.length)
    {i : Int} {o0 o1 o2 o3 o4 o5 : AObj} {c : Int} (hc0 : 1 ≤ c) (hc1 : c ≤ 3) {ρ : SEnv} (e0 : ρ 0 = .ptr o v 0) (e5 : ρ 5 = vi c) (e7 : ρ 7 = .sl true []) (e8 : ρ 8 = vi 0)
    (hQ : ∀ ρ' i' o2 o3 o4 (r : List (List Note)), (∀ t, dactylref23_Maker_Melody_w1.contains t = false → ρ' t = ρ t) → MHand r → GSl (H.length + 4) 1 (r.map encBar) (ρ' 7) o4 → Q (.exit 2) ρ' (H.set o (.box v (makerCells l i')) ++ [o0, o1, o2, o3, o4, o5]) [o]) :
    wl A 69 ⟨H.length, [2, 3, 12, 57, 61, 66]⟩ (dactylref23_Maker_Melody_l1 g) ρ (H.set o (.box v (makerCells l i)) ++ [o0, o1, o2, o3, o4, o5]) [o] Q tg := by
  refine wl_for2 (W := dactylref23_Maker_Melody_w1) (fun j ρ1 H1 wr => wr = [o] ∧ ρ1 8 = vi j ∧ ∃ i' o2 o3 o4, ∃ r : List (List Note), H1 = H.set o (.box v (makerCells l i')) ++ [o0, o1, o2, o3, o4, o5] ∧ GSl (H.length + 4) 1 (r.map encBar) (ρ1 7) o4 ∧ r.length = j ∧ ∀ a ∈ r, MBar a) c.toNat
    (fun ρ1 H1 wr => wr = [o] ∧ ∃ i' o2 o3 o4, ∃ r : List (List Note), H1 = H.set o (.box v (makerCells l i')) ++ [o0, o1, o2, o3, o4, o5] ∧ GSl (H.length + 4) 1 (r.map encBar) (ρ1 7) o4 ∧ MHand r)
    (by kernel_rfl) (by rfl) ⟨rfl, e8, i, o2, o3, o4, [], rfl, by rw [e7]; exact .nil _, rfl, by simp⟩ ?_ (by
      rintro ρ' H' wr' ⟨rfl, i', o2, o3, o4, r, rfl, hg, hr⟩ hf
      exact hQ ρ' i' o2 o3 o4 r hf hr hg)
  rintro j ρ1 H1 wr1 hjl ⟨rfl, e8, i', o2, o3, o4, r, rfl, hg, hrl, hro⟩ hf
  have f0 : ρ1 0 = .ptr o v 0 := (hf 0 (by decide)).trans e0
  have f5 : ρ1 5 = vi c := (hf 5 (by decide)).trans e5
  simp only [go_sem, NB, f5, e8]
  refine branch_intro (fun hb => ?_) (fun hb => ?_)
  · have hlt2 : j < c.toNat := by simp at hb; omega
    simp only [go_sem, ↓reduceIte, NB, NE, f0]
    refine gen_call (take_gen ht (m := 4) (by decide)) hl (i := i') (by simp only [go_sem, old_get_set, hlt]) ?_
    rintro val i2 ⟨x, rfl, hx0, hx1⟩
    have hwx : IntKind.i64.wrap (1 + x) = 1 + x := wrap_i64 (by omega) (by omega)
    simp only [go_sem, ↓reduceIte, hlt, old_set_set, hwx]
    refine mel_notes_gen ht hl hlt (c := 1 + x) (by omega) (by omega) (by simp only [go_sem, NB, f0]) (by simp only [go_sem, NB]) (by simp only [go_sem, NB]) (by simp only [go_sem]) ?_
    intro ρ2 i4 o2' o3' b hf2 hb2 hg2
    have g7 : ρ2 7 = ρ1 7 := by rw [hf2 7 (by decide)]; simp only [go_sem, NB]
    have g8 : ρ2 8 = vi j := by rw [hf2 8 (by decide)]; simp only [go_sem, NB, e8]
    obtain ⟨lf, o3'', h1, h2, hgo, haw⟩ := hg2.lendF (ne_of_len hb2.1) (dataLL_map data_note _)
    obtain ⟨v', o', hg', happ⟩ := hg.app (new := [[.sl false (b.map encNote)]]) (bytes := 24) (by simp) (by rfl) (by rw [List.length_map, hrl]; simp; omega)
    rw [show r.map encBar ++ [[.sl false (b.map encNote)]] = (r ++ [b]).map encBar by simp [encBar]] at hg'
    simp only [go_sem, ↓reduceIte, NB, NA, NL, NE, g7, g8, h2, hgo, haw, happ]
    rw [wrap_succ (by omega)]
    refine ⟨hlt2, rfl, i4, o2', o3'', o', r ++ [b], rfl, hg', by simp [hrl], ?_⟩
    intro a ha
    rcases List.mem_append.1 ha with ha | ha
    · exact hro a ha
    · have : a = b := by simpa using ha
      subst this
      exact hb2
  · have hlt2 : j = c.toNat := by simp at hb; omega
    subst hlt2
    simp only [go_sem, NB]
    exact ⟨i', o2, o3, o4, r, rfl, hg, by omega, by omega, hro⟩
theorem melody_gen {A : AProg} {g : String → Nat} (h : Has A g "(*dactyl/dactylref23.Maker).Melody" (dactylref23_Maker_Melody g)) (ht : SpecTake A g) : GenSpec A (g "(*dactyl/dactylref23.Maker).Melody") [] IsMelody := by
  refine h.gen (by simp [dactylref23_Maker_Melody]) (fun n => by kernel_rfl) ?_
  intro l i o v H hl hlt ho
  simp only [dactylref23_Maker_Melody]
  simp only [go_sem, ↓reduceIte, NB, NA, NL, NE]
  refine gen_call (take_gen ht (m := 2) (by decide)) hl (i := i) (by simp only [go_sem, old_get, hlt, ho]) ?_
  rintro val i1 ⟨x, rfl, hx0, hx1⟩
  have hwx : IntKind.i64.wrap (1 + x) = 1 + x := wrap_i64 (by omega) (by omega)
  simp only [go_sem, ↓reduceIte, hlt, old_set, hwx]
  refine gen_call (take_gen ht (m := 3) (by decide)) hl (i := i1) (by simp only [go_sem, old_get_set, hlt]) ?_
  rintro val i2 ⟨y, rfl, hy0, hy1⟩
  have hwy : IntKind.i64.wrap (1 + y) = 1 + y := wrap_i64 (by omega) (by omega)
  simp only [go_sem, ↓reduceIte, hlt, old_set_set, hwy]
  refine wl_for2 (id := 0) (W := dactylref23_Maker_Melody_w0) (fun j ρ1 H1 wr => wr = [o] ∧ ρ1 6 = vi j ∧ ∃ i' o2 o3 o4 o5 w, ∃ rows : List (List (List Note)), H1 = H.set o (.box v (makerCells l i')) ++ [.box 1 [.sl true []], .box 1 [w], o2, o3, o4, o5] ∧ GSl (H.length + 5) 1 (rows.map encHand) w o5 ∧ rows.length = j ∧ ∀ a ∈ rows, MHand a) (1 + x).toNat
    (fun ρ1 H1 wr => wr = [o] ∧ ∃ i' o2 o3 o4 o5 w, ∃ rows : List (List (List Note)), H1 = H.set o (.box v (makerCells l i')) ++ [.box 1 [.sl true []], .box 1 [w], o2, o3, o4, o5] ∧ GSl (H.length + 5) 1 (rows.map encHand) w o5 ∧ rows.length = (1 + x).toNat ∧ ∀ a ∈ rows, MHand a)
    (by kernel_rfl) (by rfl) ⟨by simp only [go_sem], by simp only [go_sem], i2, .gone 0, .gone 0, .gone 0, .gone 0, .sl true [], [], rfl, .nil _, rfl, by simp⟩ ?_ ?_
  · rintro j ρ1 H1 wr1 hjl ⟨rfl, e6, i', o2, o3, o4, o5, w, rows, rfl, hg, hrl, hro⟩ hf
    have e0 : ρ1 0 = .ptr o v 0 := by rw [hf 0 (by decide)]; simp only [go_sem, NB]
    have e3 : ρ1 3 = .ptr (H.length + 1) 1 0 := by rw [hf 3 (by decide)]; simp only [go_sem, NB]
    have e4 : ρ1 4 = vi (1 + x) := by rw [hf 4 (by decide)]; simp only [go_sem, NB]
    have e5 : ρ1 5 = vi (1 + y) := by rw [hf 5 (by decide)]; simp only [go_sem, NB]
    simp only [go_sem, NB, e4, e6]
    refine branch_intro (fun hb => ?_) (fun hb => ?_)
    · have hlt2 : j < (1 + x).toNat := by simp at hb; omega
      simp only [go_sem]
      refine mel_bars_gen ht hl hlt (c := 1 + y) (by omega) (by omega) (by simp only [go_sem, NB, e0]) (by simp only [go_sem, NB, e5]) (by simp only [go_sem, NB]) (by simp only [go_sem]) ?_
      intro ρ2 i4 o2' o3' o4' r hf2 hr hg2
      have g3 : ρ2 3 = .ptr (H.length + 1) 1 0 := by rw [hf2 3 (by decide)]; simp only [go_sem, NB, e3]
      have g6 : ρ2 6 = vi j := by rw [hf2 6 (by decide)]; simp only [go_sem, NB, e6]
      obtain ⟨lf, o4'', h1, h2, hgo, haw⟩ := hg2.lendF (ne_of_len hr.1) (dataLL_map data_bar _)
      obtain ⟨v', o', hg', happ⟩ := hg.app (new := [[.sl false (r.map encBar)]]) (bytes := 24) (by simp) (by rfl) (by rw [List.length_map, hrl]; simp; omega)
      rw [show rows.map encHand ++ [[.sl false (r.map encBar)]] = (rows ++ [r]).map encHand by simp [encHand]] at hg'
      simp only [go_sem, ↓reduceIte, NB, NA, NL, NE, g3, g6, h2, hgo, haw, happ, hg'.strip1, hg'.cellOk]
      rw [wrap_succ (by omega)]
      refine ⟨hlt2, rfl, i4, o2', o3', o4'', o', v', rows ++ [r], rfl, hg', by simp [hrl], ?_⟩
      intro a ha
      rcases List.mem_append.1 ha with ha | ha
      · exact hro a ha
      · have : a = r := by simpa using ha
        subst this
        exact hr
    · have hlt2 : j = (1 + x).toNat := by simp at hb; omega
      subst hlt2
      simp only [go_sem]
      exact ⟨i', o2, o3, o4, o5, w, rows, rfl, hg, hrl, hro⟩
  · rintro ρ2 H2 wr2 ⟨rfl, i', o2, o3, o4, o5, w, rows, rfl, hg, hrl, hro⟩ hf
    have e2 : ρ2 2 = .ptr H.length 1 0 := by rw [hf 2 (by decide)]; simp only [go_sem, NB]
    have e3 : ρ2 3 = .ptr (H.length + 1) 1 0 := by rw [hf 3 (by decide)]; simp only [go_sem, NB]
    obtain ⟨ver, e4, rfl⟩ := hg.inv (ne_of_len (by omega))
    simp only [go_sem, ↓reduceIte, NB, e2, e3, e4, hlt, allStill_rows (dataLL_map data_hand _), underLL_of_data (dataLL_map data_hand _), underLL_of_data (dataLL_map data_int _), objUnder_app]
    exact ⟨⟨i', rfl⟩, rows, rfl, by omega, by omega, hro⟩
end Go.Proofs.AM
end
