/- Part 21 of the proof that stands in the last text of this folder (lemmas; no statement of its own). -/
import Derived.Test.YtjomjnkapjgheaaDoorK20
section
open Nat renaming reduceBEq → NB, reduceAdd → NA, reduceSub → NS, reduceMul → NM, reduceLT → NL, reduceLeDiff → ND, reduceEqDiff → NE
open Int renaming reduceLT → IL, reduceLE → ID, reduceToNat → IT, reduceEq → IE, reduceBEq → IB, reduceBNe → IN, reduceAdd → IA, reduceSub → IS, reduceNeg → IM
open Bool renaming not_true → BT, not_false → BF
set_option linter.unusedVariables false
set_option maxRecDepth 8000
namespace Go.Proofs.AM
open Go
def dactylref23_Maker_Sum (g : String → Nat) : AFn := ⟨47, [2], [.cell 2 2 true],
  .seq (.region false [⟨some 2, .alloc [(.int .i64 0), (.sl true [])], none, []⟩]) <|
  .seq (.region false [⟨some 6, .bsl 1 [(.int .i64 0)] 5 [(0, (.const (.int .i64 3))), (1, (.const (.int .i64 3))), (2, (.const (.int .i64 4))), (3, (.const (.int .i64 5))), (4, (.const (.int .i64 6)))], none, []⟩,
    ⟨some 7, .mov (.tmp 0), none, []⟩,
    ⟨some 8, .callv (.const (.fn (g "(*dactyl/dactylref23.Maker).Take") [] [])) [(.tmp 7), (.const (.int .i64 5))], none, [1]⟩,
    ⟨some 9, .iaV (.tmp 6) (.tmp 8) 1, none, [0, 2, 1]⟩,
    ⟨some 10, .load 1 false (.tmp 9), none, [3, 0, 2, 1]⟩,
    ⟨some 3, .mov (.tmp 10), none, [4, 3, 0, 2, 1]⟩]) <|
  .seq (.region false [⟨some 11, .bsl 1 [(.int .i64 0)] 6 [(0, (.const (.int .i64 0))), (1, (.const (.int .i64 5))), (2, (.const (.int .i64 99))), (3, (.const (.int .i64 123))), (4, (.const (.int .i64 1005))), (5, (.const (.int .i64 47)))], none, []⟩,
    ⟨some 12, .mov (.tmp 0), none, []⟩,
    ⟨some 13, .callv (.const (.fn (g "(*dactyl/dactylref23.Maker).Take") [] [])) [(.tmp 12), (.const (.int .i64 6))], none, [1]⟩,
    ⟨some 14, .iaV (.tmp 11) (.tmp 13) 1, none, [0, 2, 1]⟩,
    ⟨some 15, .load 1 false (.tmp 14), none, [3, 0, 2, 1]⟩,
    ⟨some 4, .mov (.tmp 15), none, [4, 3, 0, 2, 1]⟩]) <|
  .seq (.region false [⟨some 16, .bsl 1 [(.int .i64 0)] 6 [(0, (.const (.int .i64 3))), (1, (.const (.int .i64 9))), (2, (.const (.int .i64 12))), (3, (.const (.int .i64 58))), (4, (.const (.int .i64 1))), (5, (.const (.int .i64 70)))], none, []⟩,
    ⟨some 17, .mov (.tmp 0), none, []⟩,
    ⟨some 18, .callv (.const (.fn (g "(*dactyl/dactylref23.Maker).Take") [] [])) [(.tmp 17), (.const (.int .i64 6))], none, [1]⟩,
    ⟨some 19, .iaV (.tmp 16) (.tmp 18) 1, none, [0, 2, 1]⟩,
    ⟨some 20, .load 1 false (.tmp 19), none, [3, 0, 2, 1]⟩,
    ⟨some 5, .mov (.tmp 20), none, [4, 3, 0, 2, 1]⟩]) <|
  .seq (.seq (.region false [⟨some 21, .mov (.tmp 3), none, []⟩,
    ⟨some 22, .bin .eql .no (.tmp 21) (.const (.int .i64 4)), none, [0]⟩]) <|
  .cond (.tmp 22) (.seq (.region false [⟨some 23, .mov (.tmp 3), none, []⟩,
      ⟨some 24, .mov (.tmp 4), none, []⟩,
      ⟨some 25, .mov (.tmp 5), none, []⟩,
      ⟨some 26, .bin .add .no (.tmp 24) (.tmp 25), none, [1, 2]⟩,
      ⟨some 27, .mov (.tmp 5), none, []⟩,
      ⟨some 28, .bsl 1 [(.int .i64 0)] 2 [(0, (.tmp 26)), (1, (.tmp 27))], none, [3, 1, 2, 4]⟩,
      ⟨some 29, .build [(.int .i64 0), (.sl true [])] [(0, 1, (.tmp 23)), (1, 1, (.tmp 28))], none, [0, 5, 3, 1, 2, 4]⟩,
      ⟨none, .store 2 (.tmp 2) (.tmp 29), none, [6, 0, 5, 3, 1, 2, 4]⟩]) <|
    .ret)
    (.skip)) <|
  .seq (.seq (.region false [⟨some 30, .mov (.tmp 3), none, []⟩,
    ⟨some 31, .bin .eql .no (.tmp 30) (.const (.int .i64 3)), none, [0]⟩,
    ⟨some 32, .mov (.tmp 31), none, [1, 0]⟩,
    ⟨some 33, .mov (.tmp 0), some (some 32, true), [2, 1, 0]⟩,
    ⟨some 34, .callv (.const (.fn (g "(*dactyl/dactylref23.Maker).Take") [] [])) [(.tmp 33), (.const (.int .i64 3))], some (some 32, true), [3, 2, 1, 0]⟩,
    ⟨some 35, .bin .eql .no (.tmp 34) (.const (.int .i64 0)), some (some 32, true), [4, 3, 2, 1, 0]⟩,
    ⟨some 36, .pick (.tmp 32) (.tmp 35) (.const (.bool false)), none, [5, 4, 3, 2, 1, 0]⟩]) <|
  .cond (.tmp 36) (.seq (.region false [⟨some 37, .mov (.tmp 3), none, []⟩,
      ⟨some 38, .mov (.tmp 4), none, []⟩,
      ⟨some 39, .mov (.tmp 5), none, []⟩,
      ⟨some 40, .bsl 1 [(.int .i64 0)] 3 [(0, (.tmp 38)), (1, (.tmp 39)), (2, (.const (.int .i64 808)))], none, [1, 2]⟩,
      ⟨some 41, .build [(.int .i64 0), (.sl true [])] [(0, 1, (.tmp 37)), (1, 1, (.tmp 40))], none, [0, 3, 1, 2]⟩,
      ⟨none, .store 2 (.tmp 2) (.tmp 41), none, [4, 0, 3, 1, 2]⟩]) <|
    .ret)
    (.skip)) <|
  .seq (.region false [⟨some 42, .mov (.tmp 3), none, []⟩,
    ⟨some 43, .mov (.tmp 4), none, []⟩,
    ⟨some 44, .mov (.tmp 5), none, []⟩,
    ⟨some 45, .bsl 1 [(.int .i64 0)] 2 [(0, (.tmp 43)), (1, (.tmp 44))], none, [1, 2]⟩,
    ⟨some 46, .build [(.int .i64 0), (.sl true [])] [(0, 1, (.tmp 42)), (1, 1, (.tmp 45))], none, [0, 3, 1, 2]⟩,
    ⟨none, .store 2 (.tmp 2) (.tmp 46), none, [4, 0, 3, 1, 2]⟩]) <|
  .ret⟩
abbrev dactylref23_Maker_Grid_l1 (g : String → Nat) : ACode := .seq (.seq (.region false [⟨some 20, .mov (.tmp 8), none, []⟩,⟨some 21, .mov (.tmp 5), none, []⟩,⟨some 22, .bin .lss .no (.tmp 20) (.tmp 21), none, [0, 1]⟩]) <| .cond (.tmp 22) (.skip) (.exit 2)) <| .seq (.block 3 (.region false [⟨some 25, .mov (.tmp 7), none, []⟩,⟨some 26, .mov (.tmp 0), none, []⟩,⟨some 27, .callv (.const (.fn (g "(*dactyl/dactylref23.Maker).Phrase") [] [])) [(.tmp 26)], none, [1]⟩,⟨some 28, .bsl 1 [(.str [])] 1 [(0, (.tmp 27))], none, [2, 1]⟩,⟨some 29, .app 1 16 (.tmp 25) (.tmp 28), none, [0, 3, 2, 1]⟩,⟨some 7, .mov (.tmp 29), none, [4, 0, 3, 2, 1]⟩])) <| .region false [⟨some 23, .mov (.tmp 8), none, []⟩,⟨some 24, .bin .add .no (.tmp 23) (.const (.int .i64 1)), none, [0]⟩,⟨some 8, .mov (.tmp 24), none, [1, 0]⟩]
abbrev dactylref23_Maker_Grid_w1 : List Nat := [20, 21, 22, 25, 26, 27, 28, 29, 7, 23, 24, 8]
abbrev dactylref23_Maker_Grid_l0 (g : String → Nat) : ACode := .seq (.seq (.region false [⟨some 15, .mov (.tmp 6), none, []⟩,⟨some 16, .mov (.tmp 4), none, []⟩,⟨some 17, .bin .lss .no (.tmp 15) (.tmp 16), none, [0, 1]⟩]) <| .cond (.tmp 17) (.skip) (.exit 0)) <| .seq (.block 1 (.seq (.region false [⟨some 7, .mov (.const (.sl true [])), none, []⟩]) <| .seq (.seq (.region false [⟨some 8, .mov (.const (.int .i64 0)), none, []⟩]) <| .block 2 (.loop (dactylref23_Maker_Grid_l1 g))) <| .region false [⟨some 30, .fa 0 (.tmp 3), none, []⟩,⟨some 31, .load 1 false (.tmp 30), none, [0]⟩,⟨some 32, .mov (.tmp 7), none, []⟩,⟨some 33, .bsl 1 [(.sl false [])] 1 [(0, (.tmp 32))], none, [2]⟩,⟨some 34, .app 1 24 (.tmp 31) (.tmp 33), none, [1, 0, 3, 2]⟩,⟨some 35, .fa 0 (.tmp 3), none, [4, 1, 0, 3, 2]⟩,⟨none, .store 1 (.tmp 35) (.tmp 34), none, [5, 4, 1, 0, 3, 2]⟩])) <| .region false [⟨some 18, .mov (.tmp 6), none, []⟩,⟨some 19, .bin .add .no (.tmp 18) (.const (.int .i64 1)), none, [0]⟩,⟨some 6, .mov (.tmp 19), none, [1, 0]⟩]
abbrev dactylref23_Maker_Grid_w0 : List Nat := [15, 16, 17, 7, 8, 20, 21, 22, 25, 26, 27, 28, 29, 7, 23, 24, 8, 30, 31, 32, 33, 34, 35, 18, 19, 6]
def dactylref23_Maker_Grid (g : String → Nat) : AFn := ⟨37, [2, 3, 29, 34], [.cell 2 1 true],
  .seq (.region false [⟨some 2, .alloc [(.sl true [])], none, []⟩]) <|
  .seq (.region false [⟨some 3, .alloc [(.sl true [])], none, []⟩]) <|
  .seq (.region false [⟨some 9, .mov (.tmp 0), none, []⟩,
    ⟨some 10, .callv (.const (.fn (g "(*dactyl/dactylref23.Maker).Take") [] [])) [(.tmp 9), (.const (.int .i64 3))], none, [0]⟩,
    ⟨some 11, .bin .add .no (.const (.int .i64 1)) (.tmp 10), none, [1, 0]⟩,
    ⟨some 4, .mov (.tmp 11), none, [2, 1, 0]⟩]) <|
  .seq (.region false [⟨some 12, .mov (.tmp 0), none, []⟩,
    ⟨some 13, .callv (.const (.fn (g "(*dactyl/dactylref23.Maker).Take") [] [])) [(.tmp 12), (.const (.int .i64 3))], none, [0]⟩,
    ⟨some 14, .bin .add .no (.const (.int .i64 1)) (.tmp 13), none, [1, 0]⟩,
    ⟨some 5, .mov (.tmp 14), none, [2, 1, 0]⟩]) <|
  .seq (.seq (.region false [⟨some 6, .mov (.const (.int .i64 0)), none, []⟩]) <|
  .block 0 (.loop (dactylref23_Maker_Grid_l0 g))) <|
  .seq (.region false [⟨some 36, .load 1 true (.tmp 3), none, []⟩,
    ⟨none, .store 1 (.tmp 2) (.tmp 36), none, [0]⟩]) <|
  .ret⟩
abbrev dactylref23_Maker_term_d0 (g : String → Nat) : List AOper := [⟨some 39, .fa 2 (.tmp 7), none, []⟩,⟨some 40, .load 1 false (.tmp 39), none, [0]⟩,⟨some 41, .mov (.tmp 0), none, []⟩,⟨some 42, .mov (.tmp 1), none, []⟩,⟨some 43, .bin .sub .no (.tmp 42) (.const (.int .i64 1)), none, [3]⟩,⟨some 44, .callv (.const (.fn (g "(*dactyl/dactylref23.Maker).term") [] [])) [(.tmp 41), (.tmp 43)], none, [2, 4, 3]⟩,⟨some 45, .bsl 3 [(.int .i64 0), (.int .i64 0), (.sl false [])] 1 [(0, (.tmp 44))], none, [5, 2, 4, 3]⟩,⟨some 46, .app 3 40 (.tmp 40) (.tmp 45), none, [1, 0, 6, 5, 2, 4, 3]⟩,⟨some 47, .fa 2 (.tmp 7), none, [7, 1, 0, 6, 5, 2, 4, 3]⟩,⟨none, .store 1 (.tmp 47) (.tmp 46), none, [8, 7, 1, 0, 6, 5, 2, 4, 3]⟩]
abbrev dactylref23_Maker_term_k0 : List Nat := [1, 5]
abbrev dactylref23_Maker_term_l0 (g : String → Nat) : ACode := .seq (.seq (.region false [⟨some 33, .mov (.tmp 8), none, []⟩,⟨some 34, .mov (.tmp 6), none, []⟩,⟨some 35, .callv (.const (.fn (g "dactyl/dactylref23.Arity") [] [])) [(.tmp 34)], none, [1]⟩,⟨some 36, .bin .lss .no (.tmp 33) (.tmp 35), none, [0, 2, 1]⟩]) <| .cond (.tmp 36) (.skip) (.exit 0)) <| .seq (.block 1 (.region true (dactylref23_Maker_term_d0 g))) <| .region false [⟨some 37, .mov (.tmp 8), none, []⟩,⟨some 38, .bin .add .no (.tmp 37) (.const (.int .i64 1)), none, [0]⟩,⟨some 8, .mov (.tmp 38), none, [1, 0]⟩]
abbrev dactylref23_Maker_term_w0 : List Nat := [33, 34, 35, 36, 39, 40, 41, 42, 43, 44, 45, 46, 47, 37, 38, 8]
def dactylref23_Maker_term (g : String → Nat) : AFn := ⟨49, [4, 7, 46], [.cell 4 3 true],
  .seq (.region false [⟨some 4, .alloc [(.int .i64 0), (.int .i64 0), (.sl true [])], none, []⟩]) <|
  .seq (.region false [⟨some 9, .mov (.tmp 0), none, []⟩,
    ⟨some 10, .callv (.const (.fn (g "(*dactyl/dactylref23.Maker).Take") [] [])) [(.tmp 9), (.const (.int .i64 12))], none, [0]⟩,
    ⟨some 5, .mov (.tmp 10), none, [1, 0]⟩]) <|
  .seq (.seq (.region false [⟨some 11, .mov (.tmp 1), none, []⟩,
    ⟨some 12, .bin .leq .no (.tmp 11) (.const (.int .i64 0)), none, [0]⟩]) <|
  .cond (.tmp 12) (.region false [⟨some 13, .mov (.tmp 5), none, []⟩,
      ⟨some 14, .bin .rem .no (.tmp 13) (.const (.int .i64 3)), none, [0]⟩,
      ⟨some 5, .mov (.tmp 14), none, [1, 0]⟩])
    (.skip)) <|
  .seq (.seq (.region false [⟨some 15, .mov (.tmp 5), none, []⟩,
    ⟨some 16, .bin .lss .no (.tmp 15) (.const (.int .i64 2)), none, [0]⟩]) <|
  .cond (.tmp 16) (.seq (.region false [⟨some 17, .bsl 1 [(.int .i64 0)] 6 [(0, (.const (.int .i64 0))), (1, (.const (.int .i64 1))), (2, (.const (.int .i64 7))), (3, (.const (.int .i64 12))), (4, (.const (.int .i64 100))), (5, (.const (.int .i64 999999)))], none, []⟩,
      ⟨some 18, .mov (.tmp 0), none, []⟩,
      ⟨some 19, .callv (.const (.fn (g "(*dactyl/dactylref23.Maker).Take") [] [])) [(.tmp 18), (.const (.int .i64 6))], none, [1]⟩,
      ⟨some 20, .iaV (.tmp 17) (.tmp 19) 1, none, [0, 2, 1]⟩,
      ⟨some 21, .load 1 false (.tmp 20), none, [3, 0, 2, 1]⟩,
      ⟨some 22, .build [(.int .i64 0), (.int .i64 0), (.sl true [])] [(0, 1, (.const (.int .i64 0))), (1, 1, (.tmp 21))], none, [4, 3, 0, 2, 1]⟩,
      ⟨none, .store 3 (.tmp 4) (.tmp 22), none, [5, 4, 3, 0, 2, 1]⟩]) <|
    .ret)
    (.skip)) <|
  .seq (.seq (.region false [⟨some 23, .mov (.tmp 5), none, []⟩,
    ⟨some 24, .bin .eql .no (.tmp 23) (.const (.int .i64 2)), none, [0]⟩]) <|
  .cond (.tmp 24) (.seq (.region false [⟨some 25, .mov (.tmp 0), none, []⟩,
      ⟨some 26, .callv (.const (.fn (g "(*dactyl/dactylref23.Maker).Take") [] [])) [(.tmp 25), (.const (.int .i64 4))], none, [0]⟩,
      ⟨some 27, .build [(.int .i64 0), (.int .i64 0), (.sl true [])] [(0, 1, (.const (.int .i64 1))), (1, 1, (.tmp 26))], none, [1, 0]⟩,
      ⟨none, .store 3 (.tmp 4) (.tmp 27), none, [2, 1, 0]⟩]) <|
    .ret)
    (.skip)) <|
  .seq (.region false [⟨some 28, .mov (.tmp 0), none, []⟩,
    ⟨some 29, .callv (.const (.fn (g "(*dactyl/dactylref23.Maker).Take") [] [])) [(.tmp 28), (.const (.int .i64 7))], none, [0]⟩,
    ⟨some 30, .bin .add .no (.const (.int .i64 2)) (.tmp 29), none, [1, 0]⟩,
    ⟨some 6, .mov (.tmp 30), none, [2, 1, 0]⟩]) <|
  .seq (.region false [⟨some 31, .mov (.tmp 6), none, []⟩,
    ⟨some 32, .build [(.int .i64 0), (.int .i64 0), (.sl true [])] [(0, 1, (.tmp 31))], none, [0]⟩,
    ⟨some 7, .alloc [(.int .i64 0), (.int .i64 0), (.sl true [])], none, []⟩,
    ⟨none, .store 3 (.tmp 7) (.tmp 32), none, [1, 0, 2]⟩]) <|
  .seq (.seq (.region false [⟨some 8, .mov (.const (.int .i64 0)), none, []⟩]) <|
  .block 0 (.loop (dactylref23_Maker_term_l0 g))) <|
  .seq (.region false [⟨some 48, .load 3 true (.tmp 7), none, []⟩,
    ⟨none, .store 3 (.tmp 4) (.tmp 48), none, [0]⟩]) <|
  .ret⟩
abbrev dactylref23_Maker_Expr_d0 (g : String → Nat) : List AOper := [⟨some 13, .mov (.tmp 0), none, []⟩,⟨some 14, .callv (.const (.fn (g "(*dactyl/dactylref23.Maker).Take") [] [])) [(.tmp 13), (.const (.int .i64 2))], none, [0]⟩,⟨some 15, .bin .add .no (.const (.int .i64 9)) (.tmp 14), none, [1, 0]⟩,⟨some 16, .load 3 true (.tmp 5), none, []⟩,⟨some 17, .mov (.tmp 0), none, []⟩,⟨some 18, .mov (.tmp 1), none, []⟩,⟨some 19, .bin .sub .no (.tmp 18) (.const (.int .i64 1)), none, [5]⟩,⟨some 20, .callv (.const (.fn (g "(*dactyl/dactylref23.Maker).term") [] [])) [(.tmp 17), (.tmp 19)], none, [4, 6, 5, 1, 0]⟩,⟨some 21, .bsl 3 [(.int .i64 0), (.int .i64 0), (.sl false [])] 2 [(0, (.tmp 16)), (1, (.tmp 20))], none, [3, 7, 4, 6, 5, 1, 0]⟩,⟨some 22, .build [(.int .i64 0), (.int .i64 0), (.sl true [])] [(0, 1, (.tmp 15)), (2, 1, (.tmp 21))], none, [2, 8, 3, 7, 4, 6, 5, 1, 0]⟩,⟨none, .store 3 (.tmp 4) (.tmp 22), none, [9, 2, 8, 3, 7, 4, 6, 5, 1, 0]⟩]
abbrev dactylref23_Maker_Expr_k0 : List Nat := [1, 3, 7]
def dactylref23_Maker_Expr (g : String → Nat) : AFn := ⟨26, [4, 5], [.cell 4 3 true],
  .seq (.region false [⟨some 4, .alloc [(.int .i64 0), (.int .i64 0), (.sl true [])], none, []⟩]) <|
  .seq (.seq (.region false [⟨some 6, .mov (.tmp 0), none, []⟩,
    ⟨some 7, .callv (.const (.fn (g "(*dactyl/dactylref23.Maker).Take") [] [])) [(.tmp 6), (.const (.int .i64 4))], none, [0]⟩,
    ⟨some 8, .bin .eql .no (.tmp 7) (.const (.int .i64 0)), none, [1, 0]⟩]) <|
  .cond (.tmp 8) (.seq (.region false [⟨some 9, .mov (.tmp 0), none, []⟩,
      ⟨some 10, .mov (.tmp 1), none, []⟩,
      ⟨some 11, .bin .sub .no (.tmp 10) (.const (.int .i64 1)), none, [1]⟩,
      ⟨some 12, .callv (.const (.fn (g "(*dactyl/dactylref23.Maker).term") [] [])) [(.tmp 9), (.tmp 11)], none, [0, 2, 1]⟩,
      ⟨some 5, .alloc [(.int .i64 0), (.int .i64 0), (.sl true [])], none, []⟩,
      ⟨none, .store 3 (.tmp 5) (.tmp 12), none, [3, 0, 2, 1, 4]⟩]) <|
    .seq (.region true (dactylref23_Maker_Expr_d0 g)) <|
    .ret)
    (.skip)) <|
  .seq (.region false [⟨some 23, .mov (.tmp 0), none, []⟩,
    ⟨some 24, .mov (.tmp 1), none, []⟩,
    ⟨some 25, .callv (.const (.fn (g "(*dactyl/dactylref23.Maker).term") [] [])) [(.tmp 23), (.tmp 24)], none, [0, 1]⟩,
    ⟨none, .store 3 (.tmp 4) (.tmp 25), none, [2, 0, 1]⟩]) <|
  .ret⟩
abbrev IsSum (v : AV) : Prop := ∃ (op : Int) (a : List Int), v = .agg [vi op, .sl false (a.map encInt)] ∧ IntOk op ∧ a.length ≤ 3 ∧ ∀ n ∈ a, IntOk n
theorem small_ok {n : Int} (h0 : 0 ≤ n) (h1 : n ≤ 1000000) : IntOk n := by constructor <;> omega
set_option maxHeartbeats 1600000 in
theorem sum_gen {A : AProg} {g : String → Nat} (h : Has A g "(*dactyl/dactylref23.Maker).Sum" (dactylref23_Maker_Sum g)) (ht : SpecTake A g) : GenSpec A (g "(*dactyl/dactylref23.Maker).Sum") [] IsSum := by
  refine h.gen (by simp [dactylref23_Maker_Sum]) (fun n => by kernel_rfl) ?_
  intro l i o v H hl hlt ho
  simp only [dactylref23_Maker_Sum]
  simp only [go_sem, ↓reduceIte, NB, NA, NL, NE]
  refine gen_call (take_gen ht (m := 5) (by decide)) hl (i := i) (by simp only [go_sem, old_get, hlt, ho]) ?_
  rintro val i1 ⟨x, rfl, hx0, hx1⟩
  obtain ⟨op, hop, htab⟩ := tabI [3, 3, 4, 5, 6] hx0 hx1
  simp only [List.map, encInt] at htab
  have hopb : 0 ≤ op ∧ op ≤ 6 := by
    have : ∀ n ∈ ([3, 3, 4, 5, 6] : List Int), 0 ≤ n ∧ n ≤ 6 := by decide
    exact this _ hop
  simp only [go_sem, ↓reduceIte, hlt, old_set, hx0, htab]
  refine gen_call (take_gen ht (m := 6) (by decide)) hl (i := i1) (by simp only [go_sem, old_get_set, hlt]) ?_
  rintro val i2 ⟨y, rfl, hy0, hy1⟩
  obtain ⟨a, ha, htab2⟩ := tabI [0, 5, 99, 123, 1005, 47] hy0 hy1
  simp only [List.map, encInt] at htab2
  have hab : 0 ≤ a ∧ a ≤ 1005 := by
    have : ∀ n ∈ ([0, 5, 99, 123, 1005, 47] : List Int), 0 ≤ n ∧ n ≤ 1005 := by decide
    exact this _ ha
  simp only [go_sem, ↓reduceIte, hlt, old_set_set, hy0, htab2]
  refine gen_call (take_gen ht (m := 6) (by decide)) hl (i := i2) (by simp only [go_sem, old_get_set, hlt]) ?_
  rintro val i3 ⟨z, rfl, hz0, hz1⟩
  obtain ⟨b, hb, htab3⟩ := tabI [3, 9, 12, 58, 1, 70] hz0 hz1
  simp only [List.map, encInt] at htab3
  have hbb : 0 ≤ b ∧ b ≤ 70 := by
    have : ∀ n ∈ ([3, 9, 12, 58, 1, 70] : List Int), 0 ≤ n ∧ n ≤ 70 := by decide
    exact this _ hb
  have hw : IntKind.i64.wrap (a + b) = a + b := wrap_i64 (by omega) (by omega)
  have fin : ∀ ns : List Int, ns.length ≤ 3 → (∀ n ∈ ns, 0 ≤ n ∧ n ≤ 1000000) → IsSum (.agg [vi op, .sl false (ns.map encInt)]) := fun ns h1 h2 => ⟨op, ns, rfl, small_ok hopb.1 (by omega), h1, fun n hn => small_ok (h2 n hn).1 (h2 n hn).2⟩
  simp only [go_sem, ↓reduceIte, hlt, old_set_set, hz0, htab3]
  refine branch_intro (fun hbr => ?_) (fun hbr => ?_)
  · simp only [go_sem, ↓reduceIte, NB, NA, NL, ND, NE, hlt, hw, objUnder_app, underLL_of_data (dataLL_map data_int _)]
    exact ⟨⟨i3, rfl⟩, fin [a + b, b] (by simp) (by intro n hn; simp only [List.mem_cons, List.not_mem_nil, or_false] at hn; rcases hn with rfl | rfl <;> omega)⟩
  · simp only [go_sem, NB, hbr]
    refine branch_intro (fun hbr2 => ?_) (fun hbr2 => ?_)
    · simp only [go_sem, ↓reduceIte, NB, NE, hbr2]
      refine gen_call (take_gen ht (m := 3) (by decide)) hl (i := i3) (by simp only [go_sem, old_get_set, hlt]) ?_
      rintro val i4 ⟨w, rfl, hw0, hw1⟩
      have hbr3 : (op == 3) = true := by simpa using hbr2
      simp only [go_sem, ↓reduceIte, hlt, old_set_set, hbr3]
      refine branch_intro (fun hbr4 => ?_) (fun hbr4 => ?_)
      · simp only [go_sem, ↓reduceIte, NB, NA, NL, ND, NE, hlt, objUnder_app, underLL_of_data (dataLL_map data_int _)]
        exact ⟨⟨i4, rfl⟩, fin [a, b, 808] (by simp) (by intro n hn; simp only [List.mem_cons, List.not_mem_nil, or_false] at hn; rcases hn with rfl | rfl | rfl <;> omega)⟩
      · simp only [go_sem, ↓reduceIte, NB, NA, NL, ND, NE, hlt, objUnder_app, underLL_of_data (dataLL_map data_int _)]
        exact ⟨⟨i4, rfl⟩, fin [a, b] (by simp) (by intro n hn; simp only [List.mem_cons, List.not_mem_nil, or_false] at hn; rcases hn with rfl | rfl <;> omega)⟩
    · have hbr3 : (op == 3) = false := by
        cases hq : (op == 3) with
        | false => rfl
        | true => rw [hq] at hbr2; cases hbr2
      simp only [go_sem, ↓reduceIte, NB, NA, NL, ND, NE, hbr3, hlt, objUnder_app, underLL_of_data (dataLL_map data_int _)]
      exact ⟨⟨i3, rfl⟩, fin [a, b] (by simp) (by intro n hn; simp only [List.mem_cons, List.not_mem_nil, or_false] at hn; rcases hn with rfl | rfl <;> omega)⟩
abbrev GRowOk (r : List Str) : Prop := 1 ≤ r.length ∧ r.length ≤ 3 ∧ ∀ s ∈ r, s.length ≤ 60
abbrev IsGrid (v : AV) : Prop := ∃ rows : List (List Str), v = .agg [.sl false (rows.map encRow)] ∧ 1 ≤ rows.length ∧ rows.length ≤ 3 ∧ ∀ r ∈ rows, GRowOk r
theorem grid_row {A : AProg} {g : String → Nat} (hp : GenSpec A (g "(*dactyl/dactylref23.Maker).Phrase") [] IsText) {H : List AObj} {Q : AExit → SEnv → List AObj → List Nat → Prop} {tg} {l : List Int} (hl : ListOk l) {o v : Nat} (hlt : o < H.length)
    {i : Int} {o0 o1 o2 o3 : AObj} {c : Int} (hc0 : 1 ≤ c) (hc1 : c ≤ 3) {ρ : SEnv} (e0 : ρ 0 = .ptr o v 0) (e5 : ρ 5 = vi c) (e7 : ρ 7 = .sl true []) (e8 : ρ 8 = vi 0)
    (hQ : ∀ ρ' i' o2 (r : List Str), (∀ t, dactylref23_Maker_Grid_w1.contains t = false → ρ' t = ρ t) → GRowOk r → GSl (H.length + 2) 1 (r.map encStr) (ρ' 7) o2 → Q (.exit 2) ρ' (H.set o (.box v (makerCells l i')) ++ [o0, o1, o2, o3]) [o]) :
    wl A 37 ⟨H.length, [2, 3, 29, 34]⟩ (dactylref23_Maker_Grid_l1 g) ρ (H.set o (.box v (makerCells l i)) ++ [o0, o1, o2, o3]) [o] Q tg := by
  refine wl_for2 (W := dactylref23_Maker_Grid_w1) (fun j ρ1 H1 wr => wr = [o] ∧ ρ1 8 = vi j ∧ ∃ i' o2, ∃ r : List Str, H1 = H.set o (.box v (makerCells l i')) ++ [o0, o1, o2, o3] ∧ GSl (H.length + 2) 1 (r.map encStr) (ρ1 7) o2 ∧ r.length = j ∧ ∀ a ∈ r, a.length ≤ 60) c.toNat
    (fun ρ1 H1 wr => wr = [o] ∧ ∃ i' o2, ∃ r : List Str, H1 = H.set o (.box v (makerCells l i')) ++ [o0, o1, o2, o3] ∧ GSl (H.length + 2) 1 (r.map encStr) (ρ1 7) o2 ∧ GRowOk r)
    (by kernel_rfl) (by rfl) ⟨rfl, e8, i, o2, [], rfl, by rw [e7]; exact .nil _, rfl, by simp⟩ ?_ (by
      rintro ρ' H' wr' ⟨rfl, i', o2, r, rfl, hg, hr⟩ hf
      exact hQ ρ' i' o2 r hf hr hg)
  rintro j ρ1 H1 wr1 hjl ⟨rfl, e8, i', o2, r, rfl, hg, hrl, hro⟩ hf
  have f0 : ρ1 0 = .ptr o v 0 := (hf 0 (by decide)).trans e0
  have f5 : ρ1 5 = vi c := (hf 5 (by decide)).trans e5
  simp only [go_sem, NB, f5, e8]
  refine branch_intro (fun hb => ?_) (fun hb => ?_)
  · have hlt2 : j < c.toNat := by simp at hb; omega
    simp only [go_sem, ↓reduceIte, NB, NA, NL, NE, f0, e8]
    refine gen_call hp hl (i := i') (by simp only [go_sem, old_get_set, hlt]) ?_
    rintro val i3 ⟨s, rfl, hs⟩
    obtain ⟨v', o', hg', happ⟩ := hg.app (new := [[.str s]]) (bytes := 16) (by simp) (by rfl) (by rw [List.length_map, hrl]; simp; omega)
    rw [show r.map encStr ++ [[.str s]] = (r ++ [s]).map encStr by simp [encStr]] at hg'
    simp only [go_sem, ↓reduceIte, hlt, old_set_set, happ]
    rw [wrap_succ (by omega)]
    refine ⟨hlt2, rfl, i3, o', r ++ [s], rfl, hg', by simp [hrl], ?_⟩
    intro a ha
    rcases List.mem_append.1 ha with ha | ha
    · exact hro a ha
    · have : a = s := by simpa using ha
      subst this
      exact hs
  · have hlt2 : j = c.toNat := by simp at hb; omega
    subst hlt2
    simp only [go_sem, NB]
    exact ⟨i', o2, r, rfl, hg, by omega, by omega, hro⟩
theorem grid_gen {A : AProg} {g : String → Nat} (h : Has A g "(*dactyl/dactylref23.Maker).Grid" (dactylref23_Maker_Grid g)) (ht : SpecTake A g) (hp : GenSpec A (g "(*dactyl/dactylref23.Maker).Phrase") [] IsText) :
    GenSpec A (g "(*dactyl/dactylref23.Maker).Grid") [] IsGrid := by
  refine h.gen (by simp [dactylref23_Maker_Grid]) (fun n => by kernel_rfl) ?_
  intro l i o v H hl hlt ho
  simp only [dactylref23_Maker_Grid]
  simp only [go_sem, ↓reduceIte, NB, NA, NL, NE]
  refine gen_call (take_gen ht (m := 3) (by decide)) hl (i := i) (by simp only [go_sem, old_get, hlt, ho]) ?_
  rintro val i1 ⟨x, rfl, hx0, hx1⟩
  have hwx : IntKind.i64.wrap (1 + x) = 1 + x := wrap_i64 (by omega) (by omega)
  simp only [go_sem, ↓reduceIte, hlt, old_set, hwx]
  refine gen_call (take_gen ht (m := 3) (by decide)) hl (i := i1) (by simp only [go_sem, old_get_set, hlt]) ?_
  rintro val i2 ⟨y, rfl, hy0, hy1⟩
  have hwy : IntKind.i64.wrap (1 + y) = 1 + y := wrap_i64 (by omega) (by omega)
  simp only [go_sem, ↓reduceIte, hlt, old_set_set, hwy]
  refine wl_for2 (id := 0) (W := dactylref23_Maker_Grid_w0) (fun j ρ1 H1 wr => wr = [o] ∧ ρ1 6 = vi j ∧ ∃ i' o2 o3 w, ∃ rows : List (List Str), H1 = H.set o (.box v (makerCells l i')) ++ [.box 1 [.sl true []], .box 1 [w], o2, o3] ∧ GSl (H.length + 3) 1 (rows.map encRow) w o3 ∧ rows.length = j ∧ ∀ a ∈ rows, GRowOk a) (1 + x).toNat
    (fun ρ1 H1 wr => wr = [o] ∧ ∃ i' o2 o3 w, ∃ rows : List (List Str), H1 = H.set o (.box v (makerCells l i')) ++ [.box 1 [.sl true []], .box 1 [w], o2, o3] ∧ GSl (H.length + 3) 1 (rows.map encRow) w o3 ∧ rows.length = (1 + x).toNat ∧ ∀ a ∈ rows, GRowOk a)
    (by kernel_rfl) (by rfl) ⟨by simp only [go_sem], by simp only [go_sem], i2, .gone 0, .gone 0, .sl true [], [], rfl, .nil _, rfl, by simp⟩ ?_ ?_
  · rintro j ρ1 H1 wr1 hjl ⟨rfl, e6, i', o2, o3, w, rows, rfl, hg, hrl, hro⟩ hf
    have e0 : ρ1 0 = .ptr o v 0 := by rw [hf 0 (by decide)]; simp only [go_sem, NB]
    have e3 : ρ1 3 = .ptr (H.length + 1) 1 0 := by rw [hf 3 (by decide)]; simp only [go_sem, NB]
    have e4 : ρ1 4 = vi (1 + x) := by rw [hf 4 (by decide)]; simp only [go_sem, NB]
    have e5 : ρ1 5 = vi (1 + y) := by rw [hf 5 (by decide)]; simp only [go_sem, NB]
    simp only [go_sem, NB, e4, e6]
    refine branch_intro (fun hb => ?_) (fun hb => ?_)
    · have hlt2 : j < (1 + x).toNat := by simp at hb; omega
      simp only [go_sem]
      refine grid_row hp hl hlt (c := 1 + y) (by omega) (by omega) (by simp only [go_sem, NB, e0]) (by simp only [go_sem, NB, e5]) (by simp only [go_sem, NB]) (by simp only [go_sem]) ?_
      intro ρ2 i4 o2' r hf2 hr hg2
      have g3 : ρ2 3 = .ptr (H.length + 1) 1 0 := by rw [hf2 3 (by decide)]; simp only [go_sem, NB, e3]
      have g6 : ρ2 6 = vi j := by rw [hf2 6 (by decide)]; simp only [go_sem, NB, e6]
      obtain ⟨ff, lf, o2'', hfx, hgo, haw⟩ := hg2.lend (dataLL_map data_str _)
      have hle : ∀ H', H'[H.length + 2]? = some o2' → lend H' (ρ2 7) = some (.sl ff (r.map encStr), lf) := by
        intro H' hh
        have := hfx H' hh
        obtain ⟨ver, h7, _⟩ := hg2.inv (by
          intro hnil
          have := congrArg List.length hnil
          have h1 := hr.1
          simp only [List.length_map, List.length_nil] at this
          omega)
        rw [h7] at this ⊢
        exact this
      obtain ⟨v', o', hg', happ⟩ := hg.app (new := [[.sl false (r.map encStr)]]) (bytes := 24) (by simp) (by rfl) (by rw [List.length_map, hrl]; simp; omega)
      rw [show rows.map encRow ++ [[.sl false (r.map encStr)]] = (rows ++ [r]).map encRow by simp [encRow]] at hg'
      simp only [go_sem, ↓reduceIte, NB, NA, NL, NE, g3, g6, hle, hgo, haw, happ, hg'.strip1, hg'.cellOk]
      rw [wrap_succ (by omega)]
      refine ⟨hlt2, rfl, i4, o2'', o', v', rows ++ [r], rfl, hg', by simp [hrl], ?_⟩
      intro a ha
      rcases List.mem_append.1 ha with ha | ha
      · exact hro a ha
      · have : a = r := by simpa using ha
        subst this
        exact hr
    · have hlt2 : j = (1 + x).toNat := by simp at hb; omega
      subst hlt2
      simp only [go_sem]
      exact ⟨i', o2, o3, w, rows, rfl, hg, hrl, hro⟩
  · rintro ρ2 H2 wr2 ⟨rfl, i', o2, o3, w, rows, rfl, hg, hrl, hro⟩ hf
    have e2 : ρ2 2 = .ptr H.length 1 0 := by rw [hf 2 (by decide)]; simp only [go_sem, NB]
    have e3 : ρ2 3 = .ptr (H.length + 1) 1 0 := by rw [hf 3 (by decide)]; simp only [go_sem, NB]
    have hne : rows.map encRow ≠ [] := by
      intro h
      have := congrArg List.length h
      simp only [List.length_map, hrl, List.length_nil] at this
      omega
    obtain ⟨ver, e4, rfl⟩ := hg.inv hne
    simp only [go_sem, ↓reduceIte, NB, e2, e3, e4, hlt, allStill_rows (dataLL_map data_row _), underLL_of_data (dataLL_map data_row _), underLL_of_data (dataLL_map data_int _), objUnder_app]
    exact ⟨⟨i', rfl⟩, rows, rfl, by omega, by omega, hro⟩
inductive Deep : Nat → Expr → Prop where
  | mk (d : Nat) (op n : Int) (kids : List Expr) : (0 ≤ op ∧ op ≤ 100) → (0 ≤ n ∧ n ≤ 1000000) → kids.length ≤ 2 → (∀ e ∈ kids, Deep d e) → Deep (d + 1) (.mk op n kids)
theorem Deep.ok : ∀ {d : Nat} {e : Expr}, Deep d e → e.Ok ∧ esize e ≤ 2 ^ d - 1
  | 0, e, h => by cases h
  | d + 1, .mk op n kids, h => by
    cases h with
    | mk _ _ _ _ h1 h2 h3 h4 =>
      refine ⟨.mk _ _ _ (small_ok h1.1 (by omega)) (small_ok h2.1 h2.2) (by omega) fun e he => (Deep.ok (h4 e he)).1, ?_⟩
      have hk : esizes kids ≤ 2 * (2 ^ d - 1) := by
        match kids, h3, h4 with
        | [], _, _ => simp [esizes]
        | [a], _, h4 => have := (Deep.ok (h4 a (by simp))).2; simp only [esizes]; omega
        | [a, b], _, h4 => have h5 := (Deep.ok (h4 a (by simp))).2; have h6 := (Deep.ok (h4 b (by simp))).2; simp only [esizes]; omega
        | _ :: _ :: _ :: _, h3, _ => simp at h3
      have hp : 1 ≤ 2 ^ d := Nat.one_le_two_pow
      rw [esize, Nat.pow_succ]; omega
abbrev IsExpr (d : Nat) (v : AV) : Prop := ∃ e : Expr, v = .agg (encExpr e) ∧ Deep d e
def arity (op : Int) : Int := if op = 0 then 0 else if op = 1 then 0 else if op = 2 then 1 else if op = 8 then 1 else 2
theorem arity_spec {A : AProg} {g : String → Nat} (h : Has A g "dactyl/dactylref23.Arity" (dactylref23_Arity g)) (op : Int) (H : List AObj) : callI A (g "dactyl/dactylref23.Arity") [vi op] H = some (vi (arity op), H, []) := by
  refine h.call (by simp [dactylref23_Arity]) (by kernel_rfl) ?_
  simp only [dactylref23_Arity]
  by_cases h0 : op = 0
  · subst h0; simp only [go_sem, ↓reduceIte, NB, arity]
  · by_cases h1 : op = 1
    · subst h1; simp only [go_sem, ↓reduceIte, NB, IE, IB, arity]
    · by_cases h2 : op = 2
      · subst h2; simp only [go_sem, ↓reduceIte, NB, IE, IB, arity]
      · by_cases h8 : op = 8
        · subst h8; simp only [go_sem, ↓reduceIte, NB, IE, IB, arity]
        · simp only [go_sem, ↓reduceIte, NB, arity, bne_of h0, bne_of h1, bne_of h2, bne_of h8, h0, h1, h2, h8]
theorem arity_le (op : Int) : 0 ≤ arity op ∧ arity op ≤ 2 := by
  unfold arity
  split
  · omega
  · split
    · omega
    · split
      · omega
      · split <;> omega
theorem deep_data (e : Expr) : dataL (encExpr e) = true := data_expr e
set_option maxHeartbeats 1600000 in
theorem term_gen {A : AProg} {g : String → Nat} (h : Has A g "(*dactyl/dactylref23.Maker).term" (dactylref23_Maker_term g)) (ht : SpecTake A g)
    (har : ∀ (op : Int) (H : List AObj), callI A (g "dactyl/dactylref23.Arity") [vi op] H = some (vi (arity op), H, [])) : ∀ d : Nat, d ≤ 3 → GenSpec A (g "(*dactyl/dactylref23.Maker).term") [vi d] (IsExpr (d + 1))
  | d, hd => by
    have ih : ∀ d', d = d' + 1 → GenSpec A (g "(*dactyl/dactylref23.Maker).term") [vi d'] (IsExpr (d' + 1)) := fun d' hd' => term_gen h ht har d' (by omega)
    refine h.gen (by simp [dactylref23_Maker_term]) (fun n => by kernel_rfl) ?_
    intro l i o v H hl hlt ho
    have leaf : ∀ op n : Int, 0 ≤ op → op ≤ 100 → 0 ≤ n → n ≤ 1000000 → IsExpr (d + 1) (.agg [vi op, vi n, .sl false []]) := fun op n h1 h2 h3 h4 => ⟨.mk op n [], rfl, .mk _ _ _ _ ⟨h1, h2⟩ ⟨h3, h4⟩ (by simp) (by simp)⟩
    simp only [dactylref23_Maker_term]
    simp only [go_sem, ↓reduceIte, NB, NA, NL, NE]
    refine gen_call (take_gen ht (m := 12) (by decide)) hl (i := i) (by simp only [go_sem, old_get, hlt, ho]) ?_
    rintro val i1 ⟨k, rfl, hk0, hk1⟩
    cases d with
    | zero =>
      have hkm : 0 ≤ k.tmod 3 ∧ k.tmod 3 < 3 := ⟨Int.tmod_nonneg _ hk0, Int.tmod_lt_of_pos _ (by decide)⟩
      simp only [go_sem, ↓reduceIte, NB, NA, ID, hlt, old_set, bin_rem (b := 3) (by decide), Int.cast_ofNat_Int]
      refine branch_intro (fun hb => ?_) (fun hb => ?_)
      · simp only [go_sem, ↓reduceIte, NB, NA, NL, ND, NE]
        refine gen_call (take_gen ht (m := 6) (by decide)) hl (i := i1) (by simp only [go_sem, old_get_set, hlt]) ?_
        rintro val i2 ⟨x, rfl, hx0, hx1⟩
        obtain ⟨n, hn, htab⟩ := tabI [0, 1, 7, 12, 100, 999999] hx0 hx1
        simp only [List.map, encInt] at htab
        have hnb : 0 ≤ n ∧ n ≤ 1000000 := by
          have : ∀ n ∈ ([0, 1, 7, 12, 100, 999999] : List Int), 0 ≤ n ∧ n ≤ 1000000 := by decide
          exact this _ hn
        simp only [go_sem, ↓reduceIte, NA, hlt, old_set_set, hx0, htab, objUnder_app, underLL_of_data (dataLL_map data_int _)]
        exact ⟨⟨i2, rfl⟩, leaf 0 n (by decide) (by decide) hnb.1 hnb.2⟩
      · simp only [go_sem, NB]
        refine branch_intro (fun hb2 => ?_) (fun hb2 => ?_)
        · simp only [go_sem, ↓reduceIte, NB, NA, ND, NE]
          refine gen_call (take_gen ht (m := 4) (by decide)) hl (i := i1) (by simp only [go_sem, old_get_set, hlt]) ?_
          rintro val i2 ⟨x, rfl, hx0, hx1⟩
          simp only [go_sem, ↓reduceIte, NA, hlt, old_set_set, objUnder_app, underLL_of_data (dataLL_map data_int _)]
          exact ⟨⟨i2, rfl⟩, leaf 1 x (by decide) (by decide) hx0 (by omega)⟩
        · exfalso
          simp at hb hb2
          omega
    | succ d' =>
      have hd0 : decide ((((d' + 1 : Nat) : Int)) ≤ 0) = false := by first | (simp; done) | (simp; omega)
      have hcast : (((d' + 1 : Nat) : Int)) = (d' : Int) + 1 := rfl
      simp only [go_sem, ↓reduceIte, NB, hlt, old_set, hd0]
      refine branch_intro (fun hb => ?_) (fun hb => ?_)
      · simp only [go_sem, ↓reduceIte, NB, NA, NL, ND, NE]
        refine gen_call (take_gen ht (m := 6) (by decide)) hl (i := i1) (by simp only [go_sem, old_get_set, hlt]) ?_
        rintro val i2 ⟨x, rfl, hx0, hx1⟩
        obtain ⟨n, hn, htab⟩ := tabI [0, 1, 7, 12, 100, 999999] hx0 hx1
        simp only [List.map, encInt] at htab
        have hnb : 0 ≤ n ∧ n ≤ 1000000 := by
          have : ∀ n ∈ ([0, 1, 7, 12, 100, 999999] : List Int), 0 ≤ n ∧ n ≤ 1000000 := by decide
          exact this _ hn
        simp only [go_sem, ↓reduceIte, NA, hlt, old_set_set, hx0, htab, objUnder_app, underLL_of_data (dataLL_map data_int _)]
        exact ⟨⟨i2, rfl⟩, leaf 0 n (by decide) (by decide) hnb.1 hnb.2⟩
      · simp only [go_sem, NB]
        refine branch_intro (fun hb2 => ?_) (fun hb2 => ?_)
        · simp only [go_sem, ↓reduceIte, NB, NA, ND, NE]
          refine gen_call (take_gen ht (m := 4) (by decide)) hl (i := i1) (by simp only [go_sem, old_get_set, hlt]) ?_
          rintro val i2 ⟨x, rfl, hx0, hx1⟩
          simp only [go_sem, ↓reduceIte, NA, hlt, old_set_set, objUnder_app, underLL_of_data (dataLL_map data_int _)]
          exact ⟨⟨i2, rfl⟩, leaf 1 x (by decide) (by decide) hx0 (by omega)⟩
        · simp only [go_sem, ↓reduceIte, NB, NA, ND, NE]
          refine gen_call (take_gen ht (m := 7) (by decide)) hl (i := i1) (by simp only [go_sem, old_get_set, hlt]) ?_
          rintro val i2 ⟨x, rfl, hx0, hx1⟩
          have hwx : IntKind.i64.wrap (2 + x) = 2 + x := wrap_i64 (by omega) (by omega)
          simp only [go_sem, ↓reduceIte, NA, NL, hlt, old_set_set, hwx]
          have hal := arity_le (2 + x)
          refine wl_for2 (id := 0) (W := dactylref23_Maker_term_w0) (fun j ρ1 H1 wr => wr = [o] ∧ ρ1 8 = vi j ∧ ∃ i' o2 w, ∃ kids : List Expr, H1 = H.set o (.box v (makerCells l i')) ++ [.box 1 [vi 0, vi 0, .sl true []], .box 1 [vi (2 + x), vi 0, w], o2] ∧ GSl (H.length + 2) 3 (kids.map encExpr) w o2 ∧ kids.length = j ∧ ∀ a ∈ kids, Deep (d' + 1) a) (arity (2 + x)).toNat
            (fun ρ1 H1 wr => wr = [o] ∧ ∃ i' o2 w, ∃ kids : List Expr, H1 = H.set o (.box v (makerCells l i')) ++ [.box 1 [vi 0, vi 0, .sl true []], .box 1 [vi (2 + x), vi 0, w], o2] ∧ GSl (H.length + 2) 3 (kids.map encExpr) w o2 ∧ kids.length = (arity (2 + x)).toNat ∧ ∀ a ∈ kids, Deep (d' + 1) a)
            (by kernel_rfl) (by rfl) ⟨by simp only [go_sem], by simp only [go_sem], i2, .gone 0, .sl true [], [], by simp only [go_sem], .nil _, rfl, by simp⟩ ?_ ?_
          · rintro j ρ1 H1 wr1 hjl ⟨rfl, e8, i', o2, w, kids, rfl, hg, hkl, hko⟩ hf
            have e0 : ρ1 0 = .ptr o v 0 := by rw [hf 0 (by decide)]; simp only [go_sem, NB]
            have e1 : ρ1 1 = vi ((d' : Int) + 1) := by rw [hf 1 (by decide)]; simp only [go_sem, NB]; rfl
            have e6 : ρ1 6 = vi (2 + x) := by rw [hf 6 (by decide)]; simp only [go_sem, NB]
            have e7 : ρ1 7 = .ptr (H.length + 1) 1 0 := by rw [hf 7 (by decide)]; simp only [go_sem, NB]
            simp only [go_sem, ↓reduceIte, NB, NE, e6, e8, har]
            refine branch_intro (fun hb3 => ?_) (fun hb3 => ?_)
            · have hlt2 : j < (arity (2 + x)).toNat := by simp at hb3; omega
              have hwd : IntKind.i64.wrap ((d' : Int) + 1 - 1) = (d' : Int) := by rw [wrap_i64 (by omega) (by omega)]; omega
              have hne : (H.length + 1 == o) = false := by simp; omega
              simp only [go_sem]
              refine wc_draw' (keep := dactylref23_Maker_term_k0) (by rfl) (by rfl) ?_
              simp only [go_sem, ↓reduceIte, NB, NA, NL, NE, dactylref23_Maker_term_k0, e0, e1, e7, hwd]
              refine gen_callD (ih d' rfl) hl (i := i') (by simp only [go_sem, old_get_set, hlt]) ?_
              rintro val i3 ⟨e, rfl, he⟩
              obtain ⟨w', o', hg', happ⟩ := hg.app (new := [encExpr e]) (bytes := 40) (by simp) (by rw [headOk_cons, len_expr3]; rfl) (by rw [List.length_map, hkl]; simp; omega)
              rw [show kids.map encExpr ++ [encExpr e] = (kids ++ [e]).map encExpr by simp] at hg'
              simp only [go_sem, ↓reduceIte, NB, NA, BF, hlt, e8, old_set_set, len_expr3, map_strip1_of_data (data_expr _), allStill_of_data (data_expr _), happ, hg'.cellOk, hg'.strip1, logOk, apartL, hne, orderOk_intro]
              rw [wrap_succ (by omega)]
              refine ⟨hlt2, rfl, i3, o', w', kids ++ [e], rfl, hg', by simp [hkl], ?_⟩
              intro a ha
              rcases List.mem_append.1 ha with ha | ha
              · exact hko a ha
              · have : a = e := by simpa using ha
                subst this
                exact he
            · have hlt2 : j = (arity (2 + x)).toNat := by simp at hb3; omega
              subst hlt2
              simp only [go_sem]
              exact ⟨i', o2, w, kids, rfl, hg, hkl, hko⟩
          · rintro ρ2 H2 wr2 ⟨rfl, i', o2, w, kids, rfl, hg, hkl, hko⟩ hf
            have e4 : ρ2 4 = .ptr H.length 1 0 := by rw [hf 4 (by decide)]; simp only [go_sem, NB]
            have e7 : ρ2 7 = .ptr (H.length + 1) 1 0 := by rw [hf 7 (by decide)]; simp only [go_sem, NB]
            obtain ⟨ff, lf, o2'', hfx, hgo, haw⟩ := hg.lend (dataLL_map data_expr _)
            simp only [go_sem, ↓reduceIte, NB, NA, e4, e7, hlt, hg.cellOk, hfx, hgo, haw, underLL_of_data (dataLL_map data_expr _), underLL_of_data (dataLL_map data_int _), objUnder_app]
            exact ⟨⟨i', rfl⟩, .mk (2 + x) 0 kids, by rw [encExpr, encExprs_map'], .mk _ _ _ _ ⟨by omega, by omega⟩ ⟨by decide, by decide⟩ (by omega) hko⟩
end Go.Proofs.AM
end
