/- Part 15 of the proof that stands in the last text of this folder (lemmas; no statement of its own). -/
import Derived.Test.YtglokbbcckpaaaaGreatDoorK14
set_option linter.unusedVariables false
set_option linter.unusedSimpArgs false
open Nat renaming reduceBEq -> NB, reduceAdd -> NA, reduceLT -> NL, reduceLeDiff -> ND, reduceEqDiff -> NE
open Int renaming reduceLE -> ID, reduceEq -> IE, reduceBEq -> IB, reduceSub -> IS
open Bool renaming not_false -> BF
section
set_option maxRecDepth 8000
namespace Go.AM
open Go
def acfZ (g : String -> Nat) : AFn := ⟨47, [2], [.cell 2 2 true],.seq (.region false [⟨some 2, .alloc [(.int .i64 0), (.sl true [])], none, []⟩]) <| .seq (.region false [⟨some 6, .bsl 1 [(.int .i64 0)] 5 [(0, (.const (.int .i64 3))), (1, (.const (.int .i64 3))), (2, (.const (.int .i64 4))), (3, (.const (.int .i64 5))), (4, (.const (.int .i64 6)))], none, []⟩,⟨some 7, .mov (.tmp 0), none, []⟩,⟨some 8, .callv (.const (.fn (g "(*dactyl/dactylref23.Maker).Take") [] [])) [(.tmp 7), (.const (.int .i64 5))], none, [1]⟩,⟨some 9, .iaV (.tmp 6) (.tmp 8) 1, none, [0, 2, 1]⟩,⟨some 10, .load 1 false (.tmp 9), none, [3, 0, 2, 1]⟩,⟨some 3, .mov (.tmp 10), none, [4, 3, 0, 2, 1]⟩]) <| .seq (.region false [⟨some 11, .bsl 1 [(.int .i64 0)] 6 [(0, (.const (.int .i64 0))), (1, (.const (.int .i64 5))), (2, (.const (.int .i64 99))), (3, (.const (.int .i64 123))), (4, (.const (.int .i64 1005))), (5, (.const (.int .i64 47)))], none, []⟩,⟨some 12, .mov (.tmp 0), none, []⟩,⟨some 13, .callv (.const (.fn (g "(*dactyl/dactylref23.Maker).Take") [] [])) [(.tmp 12), (.const (.int .i64 6))], none, [1]⟩,⟨some 14, .iaV (.tmp 11) (.tmp 13) 1, none, [0, 2, 1]⟩,⟨some 15, .load 1 false (.tmp 14), none, [3, 0, 2, 1]⟩,⟨some 4, .mov (.tmp 15), none, [4, 3, 0, 2, 1]⟩]) <| .seq (.region false [⟨some 16, .bsl 1 [(.int .i64 0)] 6 [(0, (.const (.int .i64 3))), (1, (.const (.int .i64 9))), (2, (.const (.int .i64 12))), (3, (.const (.int .i64 58))), (4, (.const (.int .i64 1))), (5, (.const (.int .i64 70)))], none, []⟩,⟨some 17, .mov (.tmp 0), none, []⟩,⟨some 18, .callv (.const (.fn (g "(*dactyl/dactylref23.Maker).Take") [] [])) [(.tmp 17), (.const (.int .i64 6))], none, [1]⟩,⟨some 19, .iaV (.tmp 16) (.tmp 18) 1, none, [0, 2, 1]⟩,⟨some 20, .load 1 false (.tmp 19), none, [3, 0, 2, 1]⟩,⟨some 5, .mov (.tmp 20), none, [4, 3, 0, 2, 1]⟩]) <| .seq (.seq (.region false [⟨some 21, .mov (.tmp 3), none, []⟩,⟨some 22, .bin .eql .no (.tmp 21) (.const (.int .i64 4)), none, [0]⟩]) <| .cond (.tmp 22) (.seq (.region false [⟨some 23, .mov (.tmp 3), none, []⟩,⟨some 24, .mov (.tmp 4), none, []⟩,⟨some 25, .mov (.tmp 5), none, []⟩,⟨some 26, .bin .add .no (.tmp 24) (.tmp 25), none, [1, 2]⟩,⟨some 27, .mov (.tmp 5), none, []⟩,⟨some 28, .bsl 1 [(.int .i64 0)] 2 [(0, (.tmp 26)), (1, (.tmp 27))], none, [3, 1, 2, 4]⟩,⟨some 29, .build [(.int .i64 0), (.sl true [])] [(0, 1, (.tmp 23)), (1, 1, (.tmp 28))], none, [0, 5, 3, 1, 2, 4]⟩,⟨none, .store 2 (.tmp 2) (.tmp 29), none, [6, 0, 5, 3, 1, 2, 4]⟩]) <| .ret) (.skip)) <| .seq (.seq (.region false [⟨some 30, .mov (.tmp 3), none, []⟩,⟨some 31, .bin .eql .no (.tmp 30) (.const (.int .i64 3)), none, [0]⟩,⟨some 32, .mov (.tmp 31), none, [1, 0]⟩,⟨some 33, .mov (.tmp 0), some (some 32, true), [2, 1, 0]⟩,⟨some 34, .callv (.const (.fn (g "(*dactyl/dactylref23.Maker).Take") [] [])) [(.tmp 33), (.const (.int .i64 3))], some (some 32, true), [3, 2, 1, 0]⟩,⟨some 35, .bin .eql .no (.tmp 34) (.const (.int .i64 0)), some (some 32, true), [4, 3, 2, 1, 0]⟩,⟨some 36, .pick (.tmp 32) (.tmp 35) (.const (.bool false)), none, [5, 4, 3, 2, 1, 0]⟩]) <| .cond (.tmp 36) (.seq (.region false [⟨some 37, .mov (.tmp 3), none, []⟩,⟨some 38, .mov (.tmp 4), none, []⟩,⟨some 39, .mov (.tmp 5), none, []⟩,⟨some 40, .bsl 1 [(.int .i64 0)] 3 [(0, (.tmp 38)), (1, (.tmp 39)), (2, (.const (.int .i64 808)))], none, [1, 2]⟩,⟨some 41, .build [(.int .i64 0), (.sl true [])] [(0, 1, (.tmp 37)), (1, 1, (.tmp 40))], none, [0, 3, 1, 2]⟩,⟨none, .store 2 (.tmp 2) (.tmp 41), none, [4, 0, 3, 1, 2]⟩]) <| .ret) (.skip)) <| .seq (.region false [⟨some 42, .mov (.tmp 3), none, []⟩,⟨some 43, .mov (.tmp 4), none, []⟩,⟨some 44, .mov (.tmp 5), none, []⟩,⟨some 45, .bsl 1 [(.int .i64 0)] 2 [(0, (.tmp 43)), (1, (.tmp 44))], none, [1, 2]⟩,⟨some 46, .build [(.int .i64 0), (.sl true [])] [(0, 1, (.tmp 42)), (1, 1, (.tmp 45))], none, [0, 3, 1, 2]⟩,⟨none, .store 2 (.tmp 2) (.tmp 46), none, [4, 0, 3, 1, 2]⟩]) <| .ret⟩
abbrev adWZ (g : String -> Nat) : ACode := .seq (.seq (.region false [⟨some 20, .mov (.tmp 8), none, []⟩,⟨some 21, .mov (.tmp 5), none, []⟩,⟨some 22, .bin .lss .no (.tmp 20) (.tmp 21), none, [0, 1]⟩]) <| .cond (.tmp 22) (.skip) (.exit 2)) <| .seq (.block 3 (.region false [⟨some 25, .mov (.tmp 7), none, []⟩,⟨some 26, .mov (.tmp 0), none, []⟩,⟨some 27, .callv (.const (.fn (g "(*dactyl/dactylref23.Maker).Phrase") [] [])) [(.tmp 26)], none, [1]⟩,⟨some 28, .bsl 1 [(.str [])] 1 [(0, (.tmp 27))], none, [2, 1]⟩,⟨some 29, .app 1 16 (.tmp 25) (.tmp 28), none, [0, 3, 2, 1]⟩,⟨some 7, .mov (.tmp 29), none, [4, 0, 3, 2, 1]⟩])) <| .region false [⟨some 23, .mov (.tmp 8), none, []⟩,⟨some 24, .bin .add .no (.tmp 23) (.const (.int .i64 1)), none, [0]⟩,⟨some 8, .mov (.tmp 24), none, [1, 0]⟩]
abbrev adXZ : List Nat := [20, 21, 22, 25, 26, 27, 28, 29, 7, 23, 24, 8]
abbrev agrZ (g : String -> Nat) : ACode := .seq (.seq (.region false [⟨some 15, .mov (.tmp 6), none, []⟩,⟨some 16, .mov (.tmp 4), none, []⟩,⟨some 17, .bin .lss .no (.tmp 15) (.tmp 16), none, [0, 1]⟩]) <| .cond (.tmp 17) (.skip) (.exit 0)) <| .seq (.block 1 (.seq (.region false [⟨some 7, .mov (.const (.sl true [])), none, []⟩]) <| .seq (.seq (.region false [⟨some 8, .mov (.const (.int .i64 0)), none, []⟩]) <| .block 2 (.loop (adWZ g))) <| .region false [⟨some 30, .fa 0 (.tmp 3), none, []⟩,⟨some 31, .load 1 false (.tmp 30), none, [0]⟩,⟨some 32, .mov (.tmp 7), none, []⟩,⟨some 33, .bsl 1 [(.sl false [])] 1 [(0, (.tmp 32))], none, [2]⟩,⟨some 34, .app 1 24 (.tmp 31) (.tmp 33), none, [1, 0, 3, 2]⟩,⟨some 35, .fa 0 (.tmp 3), none, [4, 1, 0, 3, 2]⟩,⟨none, .store 1 (.tmp 35) (.tmp 34), none, [5, 4, 1, 0, 3, 2]⟩])) <| .region false [⟨some 18, .mov (.tmp 6), none, []⟩,⟨some 19, .bin .add .no (.tmp 18) (.const (.int .i64 1)), none, [0]⟩,⟨some 6, .mov (.tmp 19), none, [1, 0]⟩]
abbrev agsZ : List Nat := [15, 16, 17, 7, 8, 20, 21, 22, 25, 26, 27, 28, 29, 7, 23, 24, 8, 30, 31, 32, 33, 34, 35, 18, 19, 6]
def abYZ (g : String -> Nat) : AFn := ⟨37, [2, 3, 29, 34], [.cell 2 1 true],.seq (.region false [⟨some 2, .alloc [(.sl true [])], none, []⟩]) <| .seq (.region false [⟨some 3, .alloc [(.sl true [])], none, []⟩]) <| .seq (.region false [⟨some 9, .mov (.tmp 0), none, []⟩,⟨some 10, .callv (.const (.fn (g "(*dactyl/dactylref23.Maker).Take") [] [])) [(.tmp 9), (.const (.int .i64 3))], none, [0]⟩,⟨some 11, .bin .add .no (.const (.int .i64 1)) (.tmp 10), none, [1, 0]⟩,⟨some 4, .mov (.tmp 11), none, [2, 1, 0]⟩]) <| .seq (.region false [⟨some 12, .mov (.tmp 0), none, []⟩,⟨some 13, .callv (.const (.fn (g "(*dactyl/dactylref23.Maker).Take") [] [])) [(.tmp 12), (.const (.int .i64 3))], none, [0]⟩,⟨some 14, .bin .add .no (.const (.int .i64 1)) (.tmp 13), none, [1, 0]⟩,⟨some 5, .mov (.tmp 14), none, [2, 1, 0]⟩]) <| .seq (.seq (.region false [⟨some 6, .mov (.const (.int .i64 0)), none, []⟩]) <| .block 0 (.loop (agrZ g))) <| .seq (.region false [⟨some 36, .load 1 true (.tmp 3), none, []⟩,⟨none, .store 1 (.tmp 2) (.tmp 36), none, [0]⟩]) <| .ret⟩
abbrev agtZ (g : String -> Nat) : List AOper := [⟨some 39, .fa 2 (.tmp 7), none, []⟩,⟨some 40, .load 1 false (.tmp 39), none, [0]⟩,⟨some 41, .mov (.tmp 0), none, []⟩,⟨some 42, .mov (.tmp 1), none, []⟩,⟨some 43, .bin .sub .no (.tmp 42) (.const (.int .i64 1)), none, [3]⟩,⟨some 44, .callv (.const (.fn (g "(*dactyl/dactylref23.Maker).term") [] [])) [(.tmp 41), (.tmp 43)], none, [2, 4, 3]⟩,⟨some 45, .bsl 3 [(.int .i64 0), (.int .i64 0), (.sl false [])] 1 [(0, (.tmp 44))], none, [5, 2, 4, 3]⟩,⟨some 46, .app 3 40 (.tmp 40) (.tmp 45), none, [1, 0, 6, 5, 2, 4, 3]⟩,⟨some 47, .fa 2 (.tmp 7), none, [7, 1, 0, 6, 5, 2, 4, 3]⟩,⟨none, .store 1 (.tmp 47) (.tmp 46), none, [8, 7, 1, 0, 6, 5, 2, 4, 3]⟩]
abbrev adYZ : List Nat := [1, 5]
abbrev aguZ (g : String -> Nat) : ACode := .seq (.seq (.region false [⟨some 33, .mov (.tmp 8), none, []⟩,⟨some 34, .mov (.tmp 6), none, []⟩,⟨some 35, .callv (.const (.fn (g "dactyl/dactylref23.Arity") [] [])) [(.tmp 34)], none, [1]⟩,⟨some 36, .bin .lss .no (.tmp 33) (.tmp 35), none, [0, 2, 1]⟩]) <| .cond (.tmp 36) (.skip) (.exit 0)) <| .seq (.block 1 (.region true (agtZ g))) <| .region false [⟨some 37, .mov (.tmp 8), none, []⟩,⟨some 38, .bin .add .no (.tmp 37) (.const (.int .i64 1)), none, [0]⟩,⟨some 8, .mov (.tmp 38), none, [1, 0]⟩]
abbrev agvZ : List Nat := [33, 34, 35, 36, 39, 40, 41, 42, 43, 44, 45, 46, 47, 37, 38, 8]
def abZZ (g : String -> Nat) : AFn := ⟨49, [4, 7, 46], [.cell 4 3 true],.seq (.region false [⟨some 4, .alloc [(.int .i64 0), (.int .i64 0), (.sl true [])], none, []⟩]) <| .seq (.region false [⟨some 9, .mov (.tmp 0), none, []⟩,⟨some 10, .callv (.const (.fn (g "(*dactyl/dactylref23.Maker).Take") [] [])) [(.tmp 9), (.const (.int .i64 12))], none, [0]⟩,⟨some 5, .mov (.tmp 10), none, [1, 0]⟩]) <| .seq (.seq (.region false [⟨some 11, .mov (.tmp 1), none, []⟩,⟨some 12, .bin .leq .no (.tmp 11) (.const (.int .i64 0)), none, [0]⟩]) <| .cond (.tmp 12) (.region false [⟨some 13, .mov (.tmp 5), none, []⟩,⟨some 14, .bin .rem .no (.tmp 13) (.const (.int .i64 3)), none, [0]⟩,⟨some 5, .mov (.tmp 14), none, [1, 0]⟩]) (.skip)) <| .seq (.seq (.region false [⟨some 15, .mov (.tmp 5), none, []⟩,⟨some 16, .bin .lss .no (.tmp 15) (.const (.int .i64 2)), none, [0]⟩]) <| .cond (.tmp 16) (.seq (.region false [⟨some 17, .bsl 1 [(.int .i64 0)] 6 [(0, (.const (.int .i64 0))), (1, (.const (.int .i64 1))), (2, (.const (.int .i64 7))), (3, (.const (.int .i64 12))), (4, (.const (.int .i64 100))), (5, (.const (.int .i64 999999)))], none, []⟩,⟨some 18, .mov (.tmp 0), none, []⟩,⟨some 19, .callv (.const (.fn (g "(*dactyl/dactylref23.Maker).Take") [] [])) [(.tmp 18), (.const (.int .i64 6))], none, [1]⟩,⟨some 20, .iaV (.tmp 17) (.tmp 19) 1, none, [0, 2, 1]⟩,⟨some 21, .load 1 false (.tmp 20), none, [3, 0, 2, 1]⟩,⟨some 22, .build [(.int .i64 0), (.int .i64 0), (.sl true [])] [(0, 1, (.const (.int .i64 0))), (1, 1, (.tmp 21))], none, [4, 3, 0, 2, 1]⟩,⟨none, .store 3 (.tmp 4) (.tmp 22), none, [5, 4, 3, 0, 2, 1]⟩]) <| .ret) (.skip)) <| .seq (.seq (.region false [⟨some 23, .mov (.tmp 5), none, []⟩,⟨some 24, .bin .eql .no (.tmp 23) (.const (.int .i64 2)), none, [0]⟩]) <| .cond (.tmp 24) (.seq (.region false [⟨some 25, .mov (.tmp 0), none, []⟩,⟨some 26, .callv (.const (.fn (g "(*dactyl/dactylref23.Maker).Take") [] [])) [(.tmp 25), (.const (.int .i64 4))], none, [0]⟩,⟨some 27, .build [(.int .i64 0), (.int .i64 0), (.sl true [])] [(0, 1, (.const (.int .i64 1))), (1, 1, (.tmp 26))], none, [1, 0]⟩,⟨none, .store 3 (.tmp 4) (.tmp 27), none, [2, 1, 0]⟩]) <| .ret) (.skip)) <| .seq (.region false [⟨some 28, .mov (.tmp 0), none, []⟩,⟨some 29, .callv (.const (.fn (g "(*dactyl/dactylref23.Maker).Take") [] [])) [(.tmp 28), (.const (.int .i64 7))], none, [0]⟩,⟨some 30, .bin .add .no (.const (.int .i64 2)) (.tmp 29), none, [1, 0]⟩,⟨some 6, .mov (.tmp 30), none, [2, 1, 0]⟩]) <| .seq (.region false [⟨some 31, .mov (.tmp 6), none, []⟩,⟨some 32, .build [(.int .i64 0), (.int .i64 0), (.sl true [])] [(0, 1, (.tmp 31))], none, [0]⟩,⟨some 7, .alloc [(.int .i64 0), (.int .i64 0), (.sl true [])], none, []⟩,⟨none, .store 3 (.tmp 7) (.tmp 32), none, [1, 0, 2]⟩]) <| .seq (.seq (.region false [⟨some 8, .mov (.const (.int .i64 0)), none, []⟩]) <| .block 0 (.loop (aguZ g))) <| .seq (.region false [⟨some 48, .load 3 true (.tmp 7), none, []⟩,⟨none, .store 3 (.tmp 4) (.tmp 48), none, [0]⟩]) <| .ret⟩
abbrev agwZ (g : String -> Nat) : List AOper := [⟨some 13, .mov (.tmp 0), none, []⟩,⟨some 14, .callv (.const (.fn (g "(*dactyl/dactylref23.Maker).Take") [] [])) [(.tmp 13), (.const (.int .i64 2))], none, [0]⟩,⟨some 15, .bin .add .no (.const (.int .i64 9)) (.tmp 14), none, [1, 0]⟩,⟨some 16, .load 3 true (.tmp 5), none, []⟩,⟨some 17, .mov (.tmp 0), none, []⟩,⟨some 18, .mov (.tmp 1), none, []⟩,⟨some 19, .bin .sub .no (.tmp 18) (.const (.int .i64 1)), none, [5]⟩,⟨some 20, .callv (.const (.fn (g "(*dactyl/dactylref23.Maker).term") [] [])) [(.tmp 17), (.tmp 19)], none, [4, 6, 5, 1, 0]⟩,⟨some 21, .bsl 3 [(.int .i64 0), (.int .i64 0), (.sl false [])] 2 [(0, (.tmp 16)), (1, (.tmp 20))], none, [3, 7, 4, 6, 5, 1, 0]⟩,⟨some 22, .build [(.int .i64 0), (.int .i64 0), (.sl true [])] [(0, 1, (.tmp 15)), (2, 1, (.tmp 21))], none, [2, 8, 3, 7, 4, 6, 5, 1, 0]⟩,⟨none, .store 3 (.tmp 4) (.tmp 22), none, [9, 2, 8, 3, 7, 4, 6, 5, 1, 0]⟩]
abbrev adZZ : List Nat := [1, 3, 7]
def acaZ (g : String -> Nat) : AFn := ⟨26, [4, 5], [.cell 4 3 true],.seq (.region false [⟨some 4, .alloc [(.int .i64 0), (.int .i64 0), (.sl true [])], none, []⟩]) <| .seq (.seq (.region false [⟨some 6, .mov (.tmp 0), none, []⟩,⟨some 7, .callv (.const (.fn (g "(*dactyl/dactylref23.Maker).Take") [] [])) [(.tmp 6), (.const (.int .i64 4))], none, [0]⟩,⟨some 8, .bin .eql .no (.tmp 7) (.const (.int .i64 0)), none, [1, 0]⟩]) <| .cond (.tmp 8) (.seq (.region false [⟨some 9, .mov (.tmp 0), none, []⟩,⟨some 10, .mov (.tmp 1), none, []⟩,⟨some 11, .bin .sub .no (.tmp 10) (.const (.int .i64 1)), none, [1]⟩,⟨some 12, .callv (.const (.fn (g "(*dactyl/dactylref23.Maker).term") [] [])) [(.tmp 9), (.tmp 11)], none, [0, 2, 1]⟩,⟨some 5, .alloc [(.int .i64 0), (.int .i64 0), (.sl true [])], none, []⟩,⟨none, .store 3 (.tmp 5) (.tmp 12), none, [3, 0, 2, 1, 4]⟩]) <| .seq (.region true (agwZ g)) <| .ret) (.skip)) <| .seq (.region false [⟨some 23, .mov (.tmp 0), none, []⟩,⟨some 24, .mov (.tmp 1), none, []⟩,⟨some 25, .callv (.const (.fn (g "(*dactyl/dactylref23.Maker).term") [] [])) [(.tmp 23), (.tmp 24)], none, [0, 1]⟩,⟨none, .store 3 (.tmp 4) (.tmp 25), none, [2, 0, 1]⟩]) <| .ret⟩
abbrev ayWZ (v : AV) : Prop := ∃ (op : Int) (a : List Int), v = .agg [vi op, .sl false (a.map aaqZ)] /\ accZ op /\ a.length <= 3 /\ (∀ n ∈ a, accZ n) /\ 0 <= op /\ op <= 10
theorem aaxZ {n : Int} (h0 : 0 <= n) (h1 : n <= 1000000) : accZ n := by constructor <;> omega
set_option maxHeartbeats 1600000 in
theorem ayXZ {A : AProg} {g : String -> Nat} (h : Has A g "(*dactyl/dactylref23.Maker).Sum" (acfZ g)) (ht : abIZ A g) : aaMZ A (g "(*dactyl/dactylref23.Maker).Sum") [] ayWZ := by
 refine h.gen (by simp [acfZ]) (fun n => by kernel_rfl) ?_
 intro l i o v H hl hlt ho
 simp only [acfZ]
 simp only [go_sem, ↓reduceIte, NB, NA, NL, NE]
 refine aalZ (aakZ ht (m := 5) (by decide)) hl (i := i) (by simp only [go_sem, acmZ, hlt, ho]) ?_
 rintro val i1 ⟨x, rfl, hx0, hx1⟩
 obtain ⟨op, hop, htab⟩ := tabI [3, 3, 4, 5, 6] hx0 hx1
 simp only [List.map, aaqZ] at htab
 have hopb : 0 <= op /\ op <= 6 := by
  have : ∀ n ∈ ([3, 3, 4, 5, 6] : List Int), 0 <= n /\ n <= 6 := by decide
  exact this _ hop
 simp only [go_sem, ↓reduceIte, hlt, aciZ, hx0, htab]
 refine aalZ (aakZ ht (m := 6) (by decide)) hl (i := i1) (by simp only [go_sem, aagZ, hlt]) ?_
 rintro val i2 ⟨y, rfl, hy0, hy1⟩
 obtain ⟨a, ha, htab2⟩ := tabI [0, 5, 99, 123, 1005, 47] hy0 hy1
 simp only [List.map, aaqZ] at htab2
 have hab : 0 <= a /\ a <= 1005 := by
  have : ∀ n ∈ ([0, 5, 99, 123, 1005, 47] : List Int), 0 <= n /\ n <= 1005 := by decide
  exact this _ ha
 simp only [go_sem, ↓reduceIte, hlt, aahZ, hy0, htab2]
 refine aalZ (aakZ ht (m := 6) (by decide)) hl (i := i2) (by simp only [go_sem, aagZ, hlt]) ?_
 rintro val i3 ⟨z, rfl, hz0, hz1⟩
 obtain ⟨b, hb, htab3⟩ := tabI [3, 9, 12, 58, 1, 70] hz0 hz1
 simp only [List.map, aaqZ] at htab3
 have hbb : 0 <= b /\ b <= 70 := by
  have : ∀ n ∈ ([3, 9, 12, 58, 1, 70] : List Int), 0 <= n /\ n <= 70 := by decide
  exact this _ hb
 have hw : IntKind.i64.wrap (a + b) = a + b := wrap_i64 (by omega) (by omega)
 have fin : ∀ ns : List Int, ns.length <= 3 -> (∀ n ∈ ns, 0 <= n /\ n <= 1000000) -> ayWZ (.agg [vi op, .sl false (ns.map aaqZ)]) := fun ns h1 h2 => ⟨op, ns, rfl, aaxZ hopb.1 (by omega), h1, fun n hn => aaxZ (h2 n hn).1 (h2 n hn).2, hopb.1, by omega⟩
 simp only [go_sem, ↓reduceIte, hlt, aahZ, hz0, htab3]
 refine aacZ (fun hbr => ?_) (fun hbr => ?_)
 ·simp only [go_sem, ↓reduceIte, NB, NA, NL, ND, NE, hlt, hw, aajZ, aaaZ (aabZ aasZ _)]
  exact ⟨⟨i3, rfl⟩, fin [a + b, b] (by simp) (by intro n hn; simp only [List.mem_cons, List.not_mem_nil, or_false] at hn; rcases hn with rfl | rfl <;> omega)⟩
 ·simp only [go_sem, NB, hbr]
  refine aacZ (fun hbr2 => ?_) (fun hbr2 => ?_)
  ·simp only [go_sem, ↓reduceIte, NB, NE, hbr2]
   refine aalZ (aakZ ht (m := 3) (by decide)) hl (i := i3) (by simp only [go_sem, aagZ, hlt]) ?_
   rintro val i4 ⟨w, rfl, hw0, hw1⟩
   have hbr3 : (op == 3) = true := by simpa using hbr2
   simp only [go_sem, ↓reduceIte, hlt, aahZ, hbr3]
   refine aacZ (fun hbr4 => ?_) (fun hbr4 => ?_)
   ·simp only [go_sem, ↓reduceIte, NB, NA, NL, ND, NE, hlt, aajZ, aaaZ (aabZ aasZ _)]
    exact ⟨⟨i4, rfl⟩, fin [a, b, 808] (by simp) (by intro n hn; simp only [List.mem_cons, List.not_mem_nil, or_false] at hn; rcases hn with rfl | rfl | rfl <;> omega)⟩
   ·simp only [go_sem, ↓reduceIte, NB, NA, NL, ND, NE, hlt, aajZ, aaaZ (aabZ aasZ _)]
    exact ⟨⟨i4, rfl⟩, fin [a, b] (by simp) (by intro n hn; simp only [List.mem_cons, List.not_mem_nil, or_false] at hn; rcases hn with rfl | rfl <;> omega)⟩
  ·have hbr3 : (op == 3) = false := by
    cases hq : (op == 3) with
    | false => rfl
    | true => rw [hq] at hbr2; cases hbr2
   simp only [go_sem, ↓reduceIte, NB, NA, NL, ND, NE, hbr3, hlt, aajZ, aaaZ (aabZ aasZ _)]
   exact ⟨⟨i3, rfl⟩, fin [a, b] (by simp) (by intro n hn; simp only [List.mem_cons, List.not_mem_nil, or_false] at hn; rcases hn with rfl | rfl <;> omega)⟩
abbrev aooZ (r : List Str) : Prop := 1 <= r.length /\ r.length <= 3 /\ ∀ s ∈ r, s.length <= 60
abbrev axXZ (v : AV) : Prop := ∃ rows : List (List Str), v = .agg [.sl false (rows.map ahXZ)] /\ 1 <= rows.length /\ rows.length <= 3 /\ ∀ r ∈ rows, aooZ r
theorem awLZ {A : AProg} {g : String -> Nat} (hp : aaMZ A (g "(*dactyl/dactylref23.Maker).Phrase") [] aonZ) {H : List AObj} {Q : AExit -> SEnv -> List AObj -> List Nat -> Prop} {tg} {l : List Int} (hl : acIZ l) {o v : Nat} (hlt : o < H.length)
  {i : Int} {o0 o1 o2 o3 : AObj} {c : Int} (hc0 : 1 <= c) (hc1 : c <= 3) {ρ : SEnv} (e0 : ρ 0 = .ptr o v 0) (e5 : ρ 5 = vi c) (e7 : ρ 7 = .sl true []) (e8 : ρ 8 = vi 0)
  (hQ : ∀ ρ' i' o2 (r : List Str), (∀ t, adXZ.contains t = false -> ρ' t = ρ t) -> aooZ r -> GSl (H.length + 2) 1 (r.map aadZ) (ρ' 7) o2 -> Q (.exit 2) ρ' (H.set o (.box v (aaeZ l i')) ++ [o0, o1, o2, o3]) [o]) :
  wl A 37 ⟨H.length, [2, 3, 29, 34]⟩ (adWZ g) ρ (H.set o (.box v (aaeZ l i)) ++ [o0, o1, o2, o3]) [o] Q tg := by
 refine aaWZ (W := adXZ) (fun j ρ1 H1 wr => wr = [o] /\ ρ1 8 = vi j /\ ∃ i' o2, ∃ r : List Str, H1 = H.set o (.box v (aaeZ l i')) ++ [o0, o1, o2, o3] /\ GSl (H.length + 2) 1 (r.map aadZ) (ρ1 7) o2 /\ r.length = j /\ ∀ a ∈ r, a.length <= 60) c.toNat
  (fun ρ1 H1 wr => wr = [o] /\ ∃ i' o2, ∃ r : List Str, H1 = H.set o (.box v (aaeZ l i')) ++ [o0, o1, o2, o3] /\ GSl (H.length + 2) 1 (r.map aadZ) (ρ1 7) o2 /\ aooZ r)
  (by kernel_rfl) (by rfl) ⟨rfl, e8, i, o2, [], rfl, by rw [e7]; exact .nil _, rfl, by simp⟩ ?_ (by
   rintro ρ' H' wr' ⟨rfl, i', o2, r, rfl, hg, hr⟩ hf
   exact hQ ρ' i' o2 r hf hr hg)
 rintro j ρ1 H1 wr1 hjl ⟨rfl, e8, i', o2, r, rfl, hg, hrl, hro⟩ hf
 have f0 : ρ1 0 = .ptr o v 0 := (hf 0 (by decide)).trans e0
 have f5 : ρ1 5 = vi c := (hf 5 (by decide)).trans e5
 simp only [go_sem, NB, f5, e8]
 refine aacZ (fun hb => ?_) (fun hb => ?_)
 ·have hlt2 : j < c.toNat := by simp at hb; omega
  simp only [go_sem, ↓reduceIte, NB, NA, NL, NE, f0, e8]
  refine aalZ hp hl (i := i') (by simp only [go_sem, aagZ, hlt]) ?_
  rintro val i3 ⟨s, rfl, hs⟩
  obtain ⟨v', o', hg', happ⟩ := hg.app (new := [[.str s]]) (bytes := 16) (by simp) (by rfl) (by rw [List.length_map, hrl]; simp; omega)
  rw [show r.map aadZ ++ [[.str s]] = (r ++ [s]).map aadZ by simp [aadZ]] at hg'
  simp only [go_sem, ↓reduceIte, hlt, aahZ, happ]
  rw [abhZ (by omega)]
  refine ⟨hlt2, rfl, i3, o', r ++ [s], rfl, hg', by simp [hrl], ?_⟩
  intro a ha
  rcases List.mem_append.1 ha with ha | ha
  ·exact hro a ha
  ·have : a = s := by simpa using ha
   subst this
   exact hs
 ·have hlt2 : j = c.toNat := by simp at hb; omega
  subst hlt2
  simp only [go_sem, NB]
  exact ⟨i', o2, r, rfl, hg, by omega, by omega, hro⟩
theorem awMZ {A : AProg} {g : String -> Nat} (h : Has A g "(*dactyl/dactylref23.Maker).Grid" (abYZ g)) (ht : abIZ A g) (hp : aaMZ A (g "(*dactyl/dactylref23.Maker).Phrase") [] aonZ) :
  aaMZ A (g "(*dactyl/dactylref23.Maker).Grid") [] axXZ := by
 refine h.gen (by simp [abYZ]) (fun n => by kernel_rfl) ?_
 intro l i o v H hl hlt ho
 simp only [abYZ]
 simp only [go_sem, ↓reduceIte, NB, NA, NL, NE]
 refine aalZ (aakZ ht (m := 3) (by decide)) hl (i := i) (by simp only [go_sem, acmZ, hlt, ho]) ?_
 rintro val i1 ⟨x, rfl, hx0, hx1⟩
 have hwx : IntKind.i64.wrap (1 + x) = 1 + x := wrap_i64 (by omega) (by omega)
 simp only [go_sem, ↓reduceIte, hlt, aciZ, hwx]
 refine aalZ (aakZ ht (m := 3) (by decide)) hl (i := i1) (by simp only [go_sem, aagZ, hlt]) ?_
 rintro val i2 ⟨y, rfl, hy0, hy1⟩
 have hwy : IntKind.i64.wrap (1 + y) = 1 + y := wrap_i64 (by omega) (by omega)
 simp only [go_sem, ↓reduceIte, hlt, aahZ, hwy]
 refine aaWZ (id := 0) (W := agsZ) (fun j ρ1 H1 wr => wr = [o] /\ ρ1 6 = vi j /\ ∃ i' o2 o3 w, ∃ rows : List (List Str), H1 = H.set o (.box v (aaeZ l i')) ++ [.box 1 [.sl true []], .box 1 [w], o2, o3] /\ GSl (H.length + 3) 1 (rows.map ahXZ) w o3 /\ rows.length = j /\ ∀ a ∈ rows, aooZ a) (1 + x).toNat
  (fun ρ1 H1 wr => wr = [o] /\ ∃ i' o2 o3 w, ∃ rows : List (List Str), H1 = H.set o (.box v (aaeZ l i')) ++ [.box 1 [.sl true []], .box 1 [w], o2, o3] /\ GSl (H.length + 3) 1 (rows.map ahXZ) w o3 /\ rows.length = (1 + x).toNat /\ ∀ a ∈ rows, aooZ a)
  (by kernel_rfl) (by rfl) ⟨by simp only [go_sem], by simp only [go_sem], i2, .gone 0, .gone 0, .sl true [], [], rfl, .nil _, rfl, by simp⟩ ?_ ?_
 ·rintro j ρ1 H1 wr1 hjl ⟨rfl, e6, i', o2, o3, w, rows, rfl, hg, hrl, hro⟩ hf
  have e0 : ρ1 0 = .ptr o v 0 := by rw [hf 0 (by decide)]; simp only [go_sem, NB]
  have e3 : ρ1 3 = .ptr (H.length + 1) 1 0 := by rw [hf 3 (by decide)]; simp only [go_sem, NB]
  have e4 : ρ1 4 = vi (1 + x) := by rw [hf 4 (by decide)]; simp only [go_sem, NB]
  have e5 : ρ1 5 = vi (1 + y) := by rw [hf 5 (by decide)]; simp only [go_sem, NB]
  simp only [go_sem, NB, e4, e6]
  refine aacZ (fun hb => ?_) (fun hb => ?_)
  ·have hlt2 : j < (1 + x).toNat := by simp at hb; omega
   simp only [go_sem]
   refine awLZ hp hl hlt (c := 1 + y) (by omega) (by omega) (by simp only [go_sem, NB, e0]) (by simp only [go_sem, NB, e5]) (by simp only [go_sem, NB]) (by simp only [go_sem]) ?_
   intro ρ2 i4 o2' r hf2 hr hg2
   have g3 : ρ2 3 = .ptr (H.length + 1) 1 0 := by rw [hf2 3 (by decide)]; simp only [go_sem, NB, e3]
   have g6 : ρ2 6 = vi j := by rw [hf2 6 (by decide)]; simp only [go_sem, NB, e6]
   obtain ⟨ff, lf, o2'', hfx, hgo, haw⟩ := hg2.lend (aabZ abuZ _)
   have hle : ∀ H', H'[H.length + 2]? = some o2' -> lend H' (ρ2 7) = some (.sl ff (r.map aadZ), lf) := by
    intro H' hh
    have := hfx H' hh
    obtain ⟨ver, h7, _⟩ := hg2.inv (by
     intro hnil
     have := congrArg List.length hnil
     have h1 := hr.1
     simp only [List.length_map, List.length_nil] at this
     omega)
    rw [h7] at this ⊢
    exact this
   obtain ⟨v', o', hg', happ⟩ := hg.app (new := [[.sl false (r.map aadZ)]]) (bytes := 24) (by simp) (by rfl) (by rw [List.length_map, hrl]; simp; omega)
   rw [show rows.map ahXZ ++ [[.sl false (r.map aadZ)]] = (rows ++ [r]).map ahXZ by simp [ahXZ]] at hg'
   simp only [go_sem, ↓reduceIte, NB, NA, NL, NE, g3, g6, hle, hgo, haw, happ, hg'.strip1, hg'.cellOk]
   rw [abhZ (by omega)]
   refine ⟨hlt2, rfl, i4, o2'', o', v', rows ++ [r], rfl, hg', by simp [hrl], ?_⟩
   intro a ha
   rcases List.mem_append.1 ha with ha | ha
   ·exact hro a ha
   ·have : a = r := by simpa using ha
    subst this
    exact hr
  ·have hlt2 : j = (1 + x).toNat := by simp at hb; omega
   subst hlt2
   simp only [go_sem]
   exact ⟨i', o2, o3, w, rows, rfl, hg, hrl, hro⟩
 ·rintro ρ2 H2 wr2 ⟨rfl, i', o2, o3, w, rows, rfl, hg, hrl, hro⟩ hf
  have e2 : ρ2 2 = .ptr H.length 1 0 := by rw [hf 2 (by decide)]; simp only [go_sem, NB]
  have e3 : ρ2 3 = .ptr (H.length + 1) 1 0 := by rw [hf 3 (by decide)]; simp only [go_sem, NB]
  have hne : rows.map ahXZ ≠ [] := by
   intro h
   have := congrArg List.length h
   simp only [List.length_map, hrl, List.length_nil] at this
   omega
  obtain ⟨ver, e4, rfl⟩ := hg.inv hne
  simp only [go_sem, ↓reduceIte, NB, e2, e3, e4, hlt, aatZ (aabZ ajVZ _), aaaZ (aabZ ajVZ _), aaaZ (aabZ aasZ _), aajZ]
  exact ⟨⟨i', rfl⟩, rows, rfl, by omega, by omega, hro⟩
inductive Deep : Nat -> Expr -> Prop where
 | mk (d : Nat) (op n : Int) (kids : List Expr) : (0 <= op /\ op <= 100) -> (0 <= n /\ n <= 1000000) -> kids.length <= 2 -> (∀ e ∈ kids, Deep d e) -> (kids.length = 0 /\ op <= 1 ∨ kids.length = 1 /\ (op = 2 ∨ op = 8) ∨ kids.length = 2 /\ (3 <= op /\ op <= 7 ∨ 9 <= op /\ op <= 10)) -> Deep (d + 1) (.mk op n kids)
theorem Deep.ok : ∀ {d : Nat} {e : Expr}, Deep d e -> e.Ok /\ aqiZ e <= 2 ^ d - 1
 | 0, e, h => by cases h
 | d + 1, .mk op n kids, h => by
  cases h with
  | mk _ _ _ _ h1 h2 h3 h4 h5 =>
   refine ⟨.mk _ _ _ (aaxZ h1.1 (by omega)) (aaxZ h2.1 h2.2) (by omega) fun e he => (Deep.ok (h4 e he)).1, ?_⟩
   have hk : amJZ kids <= 2 * (2 ^ d - 1) := by
    match kids, h3, h4 with
    | [], _, _ => simp [amJZ]
    | [a], _, h4 => have := (Deep.ok (h4 a (by simp))).2; simp only [amJZ]; omega
    | [a, b], _, h4 => have h5 := (Deep.ok (h4 a (by simp))).2; have h6 := (Deep.ok (h4 b (by simp))).2; simp only [amJZ]; omega
    | _ :: _ :: _ :: _, h3, _ => simp at h3
   have hp : 1 <= 2 ^ d := Nat.one_le_two_pow
   rw [aqiZ, Nat.pow_succ]; omega
abbrev alnZ (d : Nat) (v : AV) : Prop := ∃ e : Expr, v = .agg (aaGZ e) /\ Deep d e
def arity (op : Int) : Int := if op = 0 then 0 else if op = 1 then 0 else if op = 2 then 1 else if op = 8 then 1 else 2
theorem atzZ {A : AProg} {g : String -> Nat} (h : Has A g "dactyl/dactylref23.Arity" (adDZ g)) (op : Int) (H : List AObj) : aapZ A (g "dactyl/dactylref23.Arity") [vi op] H = some (vi (arity op), H, []) := by
 refine h.call (by simp [adDZ]) (by kernel_rfl) ?_
 simp only [adDZ]
 by_cases h0 : op = 0
 ·subst h0; simp only [go_sem, ↓reduceIte, NB, arity]
 ·by_cases h1 : op = 1
  ·subst h1; simp only [go_sem, ↓reduceIte, NB, IE, IB, arity]
  ·by_cases h2 : op = 2
   ·subst h2; simp only [go_sem, ↓reduceIte, NB, IE, IB, arity]
   ·by_cases h8 : op = 8
    ·subst h8; simp only [go_sem, ↓reduceIte, NB, IE, IB, arity]
    ·simp only [go_sem, ↓reduceIte, NB, arity, alkZ h0, alkZ h1, alkZ h2, alkZ h8, h0, h1, h2, h8]
theorem awNZ (op : Int) : 0 <= arity op /\ arity op <= 2 := by
 unfold arity
 split
 ·omega
 ·split
  ·omega
  ·split
   ·omega
   ·split <;> omega
theorem aveZ {op : Int} (h1 : 2 <= op) (h2 : op <= 8) : (arity op).toNat = 1 /\ (op = 2 ∨ op = 8) ∨ (arity op).toNat = 2 /\ (3 <= op /\ op <= 7 ∨ 9 <= op /\ op <= 10) := by
 unfold arity
 rw [if_neg (by omega), if_neg (by omega)]
 by_cases h3 : op = 2
 ·rw [if_pos h3]; exact .inl ⟨rfl, .inl h3⟩
 ·rw [if_neg h3]
  by_cases h4 : op = 8
  ·rw [if_pos h4]; exact .inl ⟨rfl, .inr h4⟩
  ·rw [if_neg h4]; exact .inr ⟨rfl, .inl ⟨by omega, by omega⟩⟩
set_option maxHeartbeats 1600000 in
theorem asuZ {A : AProg} {g : String -> Nat} (h : Has A g "(*dactyl/dactylref23.Maker).term" (abZZ g)) (ht : abIZ A g)
  (har : ∀ (op : Int) (H : List AObj), aapZ A (g "dactyl/dactylref23.Arity") [vi op] H = some (vi (arity op), H, [])) : ∀ d : Nat, d <= 3 -> aaMZ A (g "(*dactyl/dactylref23.Maker).term") [vi d] (alnZ (d + 1))
 | d, hd => by
  have ih : ∀ d', d = d' + 1 -> aaMZ A (g "(*dactyl/dactylref23.Maker).term") [vi d'] (alnZ (d' + 1)) := fun d' hd' => asuZ h ht har d' (by omega)
  refine h.gen (by simp [abZZ]) (fun n => by kernel_rfl) ?_
  intro l i o v H hl hlt ho
  have leaf : ∀ op n : Int, 0 <= op -> op <= 1 -> 0 <= n -> n <= 1000000 -> alnZ (d + 1) (.agg [vi op, vi n, .sl false []]) := fun op n h1 h2 h3 h4 => ⟨.mk op n [], rfl, .mk _ _ _ _ ⟨h1, by omega⟩ ⟨h3, h4⟩ (by simp) (by simp) (.inl ⟨rfl, h2⟩)⟩
  simp only [abZZ]
  simp only [go_sem, ↓reduceIte, NB, NA, NL, NE]
  refine aalZ (aakZ ht (m := 12) (by decide)) hl (i := i) (by simp only [go_sem, acmZ, hlt, ho]) ?_
  rintro val i1 ⟨k, rfl, hk0, hk1⟩
  cases d with
  | zero =>
   have hkm : 0 <= k.tmod 3 /\ k.tmod 3 < 3 := ⟨Int.tmod_nonneg _ hk0, Int.tmod_lt_of_pos _ (by decide)⟩
   simp only [go_sem, ↓reduceIte, NB, NA, ID, hlt, aciZ, aeFZ (b := 3) (by decide), Int.cast_ofNat_Int]
   refine aacZ (fun hb => ?_) (fun hb => ?_)
   ·simp only [go_sem, ↓reduceIte, NB, NA, NL, ND, NE]
    refine aalZ (aakZ ht (m := 6) (by decide)) hl (i := i1) (by simp only [go_sem, aagZ, hlt]) ?_
    rintro val i2 ⟨x, rfl, hx0, hx1⟩
    obtain ⟨n, hn, htab⟩ := tabI [0, 1, 7, 12, 100, 999999] hx0 hx1
    simp only [List.map, aaqZ] at htab
    have hnb : 0 <= n /\ n <= 1000000 := by
     have : ∀ n ∈ ([0, 1, 7, 12, 100, 999999] : List Int), 0 <= n /\ n <= 1000000 := by decide
     exact this _ hn
    simp only [go_sem, ↓reduceIte, NA, hlt, aahZ, hx0, htab, aajZ, aaaZ (aabZ aasZ _)]
    exact ⟨⟨i2, rfl⟩, leaf 0 n (by decide) (by decide) hnb.1 hnb.2⟩
   ·simp only [go_sem, NB]
    refine aacZ (fun hb2 => ?_) (fun hb2 => ?_)
    ·simp only [go_sem, ↓reduceIte, NB, NA, ND, NE]
     refine aalZ (aakZ ht (m := 4) (by decide)) hl (i := i1) (by simp only [go_sem, aagZ, hlt]) ?_
     rintro val i2 ⟨x, rfl, hx0, hx1⟩
     simp only [go_sem, ↓reduceIte, NA, hlt, aahZ, aajZ, aaaZ (aabZ aasZ _)]
     exact ⟨⟨i2, rfl⟩, leaf 1 x (by decide) (by decide) hx0 (by omega)⟩
    ·exfalso
     simp at hb hb2
     omega
  | succ d' =>
   have hd0 : decide ((((d' + 1 : Nat) : Int)) <= 0) = false := by first | (simp; done) | (simp; omega)
   have hcast : (((d' + 1 : Nat) : Int)) = (d' : Int) + 1 := rfl
   simp only [go_sem, ↓reduceIte, NB, hlt, aciZ, hd0]
   refine aacZ (fun hb => ?_) (fun hb => ?_)
   ·simp only [go_sem, ↓reduceIte, NB, NA, NL, ND, NE]
    refine aalZ (aakZ ht (m := 6) (by decide)) hl (i := i1) (by simp only [go_sem, aagZ, hlt]) ?_
    rintro val i2 ⟨x, rfl, hx0, hx1⟩
    obtain ⟨n, hn, htab⟩ := tabI [0, 1, 7, 12, 100, 999999] hx0 hx1
    simp only [List.map, aaqZ] at htab
    have hnb : 0 <= n /\ n <= 1000000 := by
     have : ∀ n ∈ ([0, 1, 7, 12, 100, 999999] : List Int), 0 <= n /\ n <= 1000000 := by decide
     exact this _ hn
    simp only [go_sem, ↓reduceIte, NA, hlt, aahZ, hx0, htab, aajZ, aaaZ (aabZ aasZ _)]
    exact ⟨⟨i2, rfl⟩, leaf 0 n (by decide) (by decide) hnb.1 hnb.2⟩
   ·simp only [go_sem, NB]
    refine aacZ (fun hb2 => ?_) (fun hb2 => ?_)
    ·simp only [go_sem, ↓reduceIte, NB, NA, ND, NE]
     refine aalZ (aakZ ht (m := 4) (by decide)) hl (i := i1) (by simp only [go_sem, aagZ, hlt]) ?_
     rintro val i2 ⟨x, rfl, hx0, hx1⟩
     simp only [go_sem, ↓reduceIte, NA, hlt, aahZ, aajZ, aaaZ (aabZ aasZ _)]
     exact ⟨⟨i2, rfl⟩, leaf 1 x (by decide) (by decide) hx0 (by omega)⟩
    ·simp only [go_sem, ↓reduceIte, NB, NA, ND, NE]
     refine aalZ (aakZ ht (m := 7) (by decide)) hl (i := i1) (by simp only [go_sem, aagZ, hlt]) ?_
     rintro val i2 ⟨x, rfl, hx0, hx1⟩
     have hwx : IntKind.i64.wrap (2 + x) = 2 + x := wrap_i64 (by omega) (by omega)
     simp only [go_sem, ↓reduceIte, NA, NL, hlt, aahZ, hwx]
     have hal := awNZ (2 + x)
     refine aaWZ (id := 0) (W := agvZ) (fun j ρ1 H1 wr => wr = [o] /\ ρ1 8 = vi j /\ ∃ i' o2 w, ∃ kids : List Expr, H1 = H.set o (.box v (aaeZ l i')) ++ [.box 1 [vi 0, vi 0, .sl true []], .box 1 [vi (2 + x), vi 0, w], o2] /\ GSl (H.length + 2) 3 (kids.map aaGZ) w o2 /\ kids.length = j /\ ∀ a ∈ kids, Deep (d' + 1) a) (arity (2 + x)).toNat
      (fun ρ1 H1 wr => wr = [o] /\ ∃ i' o2 w, ∃ kids : List Expr, H1 = H.set o (.box v (aaeZ l i')) ++ [.box 1 [vi 0, vi 0, .sl true []], .box 1 [vi (2 + x), vi 0, w], o2] /\ GSl (H.length + 2) 3 (kids.map aaGZ) w o2 /\ kids.length = (arity (2 + x)).toNat /\ ∀ a ∈ kids, Deep (d' + 1) a)
      (by kernel_rfl) (by rfl) ⟨by simp only [go_sem], by simp only [go_sem], i2, .gone 0, .sl true [], [], by simp only [go_sem], .nil _, rfl, by simp⟩ ?_ ?_
     ·rintro j ρ1 H1 wr1 hjl ⟨rfl, e8, i', o2, w, kids, rfl, hg, hkl, hko⟩ hf
      have e0 : ρ1 0 = .ptr o v 0 := by rw [hf 0 (by decide)]; simp only [go_sem, NB]
      have e1 : ρ1 1 = vi ((d' : Int) + 1) := by rw [hf 1 (by decide)]; simp only [go_sem, NB]; rfl
      have e6 : ρ1 6 = vi (2 + x) := by rw [hf 6 (by decide)]; simp only [go_sem, NB]
      have e7 : ρ1 7 = .ptr (H.length + 1) 1 0 := by rw [hf 7 (by decide)]; simp only [go_sem, NB]
      simp only [go_sem, ↓reduceIte, NB, NE, e6, e8, har]
      refine aacZ (fun hb3 => ?_) (fun hb3 => ?_)
      ·have hlt2 : j < (arity (2 + x)).toNat := by simp at hb3; omega
       have hwd : IntKind.i64.wrap ((d' : Int) + 1 - 1) = (d' : Int) := by rw [wrap_i64 (by omega) (by omega)]; omega
       have hne : (H.length + 1 == o) = false := by simp; omega
       simp only [go_sem]
       refine aaPZ (keep := adYZ) (by rfl) (by rfl) ?_
       simp only [go_sem, ↓reduceIte, NB, NA, NL, NE, adYZ, e0, e1, e7, hwd]
       refine abaZ (ih d' rfl) hl (i := i') (by simp only [go_sem, aagZ, hlt]) ?_
       rintro val i3 ⟨e, rfl, he⟩
       obtain ⟨w', o', hg', happ⟩ := hg.app (new := [aaGZ e]) (bytes := 40) (by simp) (by rw [amHZ, aeRZ]; rfl) (by rw [List.length_map, hkl]; simp; omega)
       rw [show kids.map aaGZ ++ [aaGZ e] = (kids ++ [e]).map aaGZ by simp] at hg'
       simp only [go_sem, ↓reduceIte, NB, NA, BF, hlt, e8, aahZ, aeRZ, aaoZ (abpZ _), abFZ (abpZ _), happ, hg'.cellOk, hg'.strip1, acUZ, acEZ, hne, aavZ]
       rw [abhZ (by omega)]
       refine ⟨hlt2, rfl, i3, o', w', kids ++ [e], rfl, hg', by simp [hkl], ?_⟩
       intro a ha
       rcases List.mem_append.1 ha with ha | ha
       ·exact hko a ha
       ·have : a = e := by simpa using ha
        subst this
        exact he
      ·have hlt2 : j = (arity (2 + x)).toNat := by simp at hb3; omega
       subst hlt2
       simp only [go_sem]
       exact ⟨i', o2, w, kids, rfl, hg, hkl, hko⟩
     ·rintro ρ2 H2 wr2 ⟨rfl, i', o2, w, kids, rfl, hg, hkl, hko⟩ hf
      have e4 : ρ2 4 = .ptr H.length 1 0 := by rw [hf 4 (by decide)]; simp only [go_sem, NB]
      have e7 : ρ2 7 = .ptr (H.length + 1) 1 0 := by rw [hf 7 (by decide)]; simp only [go_sem, NB]
      obtain ⟨ff, lf, o2'', hfx, hgo, haw⟩ := hg.lend (aabZ abpZ _)
      simp only [go_sem, ↓reduceIte, NB, NA, e4, e7, hlt, hg.cellOk, hfx, hgo, haw, aaaZ (aabZ abpZ _), aaaZ (aabZ aasZ _), aajZ]
      exact ⟨⟨i', rfl⟩, .mk (2 + x) 0 kids, by rw [aaGZ, abvZ], .mk _ _ _ _ ⟨by omega, by omega⟩ ⟨by decide, by decide⟩ (by omega) hko (by rw [hkl]; exact .inr (aveZ (by omega) (by omega)))⟩
end Go.AM
end
section
set_option maxRecDepth 8000
namespace Go.AM
open Go
abbrev afAZ (g : String -> Nat) : List AOper := [⟨some 7, .fa 2 (.tmp 3), none, []⟩,⟨some 8, .load 1 false (.tmp 7), none, [0]⟩,⟨some 9, .mov (.tmp 0), none, []⟩,⟨some 10, .callv (.const (.fn (g "(*dactyl/dactylref23.Maker).Take") [] [])) [(.tmp 9), (.const (.int .i64 4))], none, [2]⟩,⟨some 11, .bin .add .no (.const (.int .i64 24)) (.tmp 10), none, [3, 2]⟩,⟨some 12, .mov (.tmp 0), none, []⟩,⟨some 13, .callv (.const (.fn (g "(*dactyl/dactylref23.Maker).Take") [] [])) [(.tmp 12), (.const (.int .i64 9))], none, [5, 3, 2]⟩,⟨some 14, .bin .add .no (.const (.int .i64 30)) (.tmp 13), none, [6, 5, 3, 2]⟩,⟨some 15, .callv (.const (.fn (g "dactyl/dactylref23.box") [] [])) [(.const (.int .i64 2)), (.const (.int .i64 2)), (.tmp 11), (.tmp 14)], none, [4, 7, 6, 5, 3, 2]⟩,⟨some 16, .build [(.int .i64 0), (.sl true [])] [(0, 1, (.const (.int .i64 2))), (1, 1, (.tmp 15))], none, [8, 4, 7, 6, 5, 3, 2]⟩,⟨some 17, .bsl 2 [(.int .i64 0), (.sl false [])] 1 [(0, (.tmp 16))], none, [9, 8, 4, 7, 6, 5, 3, 2]⟩,⟨some 18, .app 2 32 (.tmp 8) (.tmp 17), none, [1, 0, 10, 9, 8, 4, 7, 6, 5, 3, 2]⟩,⟨some 19, .fa 2 (.tmp 3), none, [11, 1, 0, 10, 9, 8, 4, 7, 6, 5, 3, 2]⟩,⟨none, .store 1 (.tmp 19) (.tmp 18), none, [12, 11, 1, 0, 10, 9, 8, 4, 7, 6, 5, 3, 2]⟩]
abbrev adoZ : List Nat := [1, 3, 6, 8]
abbrev afBZ (g : String -> Nat) : List AOper := [⟨some 23, .fa 2 (.tmp 3), none, []⟩,⟨some 24, .load 1 false (.tmp 23), none, [0]⟩,⟨some 25, .mov (.tmp 0), none, []⟩,⟨some 26, .callv (.const (.fn (g "(*dactyl/dactylref23.Maker).Take") [] [])) [(.tmp 25), (.const (.int .i64 5))], none, [2]⟩,⟨some 27, .bin .add .no (.const (.int .i64 10)) (.tmp 26), none, [3, 2]⟩,⟨some 28, .mov (.tmp 0), none, []⟩,⟨some 29, .callv (.const (.fn (g "(*dactyl/dactylref23.Maker).Take") [] [])) [(.tmp 28), (.const (.int .i64 8))], none, [5, 3, 2]⟩,⟨some 30, .bin .add .no (.const (.int .i64 12)) (.tmp 29), none, [6, 5, 3, 2]⟩,⟨some 31, .build [(.int .i64 0), (.int .i64 0)] [(0, 1, (.tmp 27)), (1, 1, (.tmp 30))], none, [4, 7, 6, 5, 3, 2]⟩,⟨some 32, .bsl 2 [(.int .i64 0), (.int .i64 0)] 1 [(0, (.tmp 31))], none, [8, 4, 7, 6, 5, 3, 2]⟩,⟨some 33, .build [(.int .i64 0), (.sl true [])] [(0, 1, (.const (.int .i64 0))), (1, 1, (.tmp 32))], none, [9, 8, 4, 7, 6, 5, 3, 2]⟩,⟨some 34, .bsl 2 [(.int .i64 0), (.sl false [])] 1 [(0, (.tmp 33))], none, [10, 9, 8, 4, 7, 6, 5, 3, 2]⟩,⟨some 35, .app 2 32 (.tmp 24) (.tmp 34), none, [1, 0, 11, 10, 9, 8, 4, 7, 6, 5, 3, 2]⟩,⟨some 36, .fa 2 (.tmp 3), none, [12, 1, 0, 11, 10, 9, 8, 4, 7, 6, 5, 3, 2]⟩,⟨none, .store 1 (.tmp 36) (.tmp 35), none, [13, 12, 1, 0, 11, 10, 9, 8, 4, 7, 6, 5, 3, 2]⟩]
abbrev adpZ : List Nat := [1, 3, 6]
abbrev afCZ (g : String -> Nat) : List AOper := [⟨some 43, .fa 2 (.tmp 3), none, []⟩,⟨some 44, .load 1 false (.tmp 43), none, [0]⟩,⟨some 45, .mov (.tmp 4), none, []⟩,⟨some 46, .build [(.int .i64 0), (.int .i64 0)] [(0, 1, (.tmp 45)), (1, 1, (.const (.int .i64 4)))], none, [2]⟩,⟨some 47, .mov (.tmp 4), none, []⟩,⟨some 48, .bin .add .no (.tmp 47) (.const (.int .i64 8)), none, [4]⟩,⟨some 49, .mov (.tmp 0), none, []⟩,⟨some 50, .callv (.const (.fn (g "(*dactyl/dactylref23.Maker).Take") [] [])) [(.tmp 49), (.const (.int .i64 6))], none, [6]⟩,⟨some 51, .bin .add .no (.const (.int .i64 10)) (.tmp 50), none, [7, 6]⟩,⟨some 52, .build [(.int .i64 0), (.int .i64 0)] [(0, 1, (.tmp 48)), (1, 1, (.tmp 51))], none, [5, 4, 8, 7, 6]⟩,⟨some 53, .mov (.tmp 4), none, []⟩,⟨some 54, .build [(.int .i64 0), (.int .i64 0)] [(0, 1, (.tmp 53)), (1, 1, (.const (.int .i64 30)))], none, [10]⟩,⟨some 55, .bsl 2 [(.int .i64 0), (.int .i64 0)] 3 [(0, (.tmp 46)), (1, (.tmp 52)), (2, (.tmp 54))], none, [3, 2, 9, 5, 4, 8, 7, 6, 11, 10]⟩,⟨some 56, .build [(.int .i64 0), (.sl true [])] [(0, 1, (.const (.int .i64 1))), (1, 1, (.tmp 55))], none, [12, 3, 2, 9, 5, 4, 8, 7, 6, 11, 10]⟩,⟨some 57, .bsl 2 [(.int .i64 0), (.sl false [])] 1 [(0, (.tmp 56))], none, [13, 12, 3, 2, 9, 5, 4, 8, 7, 6, 11, 10]⟩,⟨some 58, .app 2 32 (.tmp 44) (.tmp 57), none, [1, 0, 14, 13, 12, 3, 2, 9, 5, 4, 8, 11, 10, 7, 6]⟩,⟨some 59, .fa 2 (.tmp 3), none, [15, 1, 0, 14, 13, 12, 3, 2, 9, 5, 4, 8, 11, 10, 7, 6]⟩,⟨none, .store 1 (.tmp 59) (.tmp 58), none, [16, 15, 1, 0, 14, 13, 12, 3, 2, 9, 5, 4, 8, 11, 10, 7, 6]⟩]
abbrev adqZ : List Nat := [1, 7]
abbrev afDZ (g : String -> Nat) : List AOper := [⟨some 60, .fa 2 (.tmp 3), none, []⟩,⟨some 61, .load 1 false (.tmp 60), none, [0]⟩,⟨some 62, .mov (.tmp 4), none, []⟩,⟨some 63, .mov (.tmp 0), none, []⟩,⟨some 64, .callv (.const (.fn (g "(*dactyl/dactylref23.Maker).Take") [] [])) [(.tmp 63), (.const (.int .i64 12))], none, [3]⟩,⟨some 65, .bin .add .no (.const (.int .i64 12)) (.tmp 64), none, [4, 3]⟩,⟨some 66, .callv (.const (.fn (g "dactyl/dactylref23.box") [] [])) [(.tmp 62), (.const (.int .i64 5)), (.const (.int .i64 10)), (.tmp 65)], none, [2, 5, 4, 3]⟩,⟨some 67, .build [(.int .i64 0), (.sl true [])] [(0, 1, (.const (.int .i64 2))), (1, 1, (.tmp 66))], none, [6, 2, 5, 4, 3]⟩,⟨some 68, .bsl 2 [(.int .i64 0), (.sl false [])] 1 [(0, (.tmp 67))], none, [7, 6, 2, 5, 4, 3]⟩,⟨some 69, .app 2 32 (.tmp 61) (.tmp 68), none, [1, 0, 8, 7, 6, 2, 5, 4, 3]⟩,⟨some 70, .fa 2 (.tmp 3), none, [9, 1, 0, 8, 7, 6, 2, 5, 4, 3]⟩,⟨none, .store 1 (.tmp 70) (.tmp 69), none, [10, 9, 1, 0, 8, 7, 6, 2, 5, 4, 3]⟩]
abbrev adrZ : List Nat := [1, 4, 6]
abbrev afEZ (g : String -> Nat) : List AOper := [⟨some 74, .fa 2 (.tmp 3), none, []⟩,⟨some 75, .load 1 false (.tmp 74), none, [0]⟩,⟨some 76, .build [(.int .i64 0), (.int .i64 0)] [(0, 1, (.const (.int .i64 36))), (1, 1, (.const (.int .i64 44)))], none, []⟩,⟨some 77, .mov (.tmp 0), none, []⟩,⟨some 78, .callv (.const (.fn (g "(*dactyl/dactylref23.Maker).Take") [] [])) [(.tmp 77), (.const (.int .i64 20))], none, [3]⟩,⟨some 79, .bin .add .no (.const (.int .i64 36)) (.tmp 78), none, [4, 3]⟩,⟨some 80, .build [(.int .i64 0), (.int .i64 0)] [(0, 1, (.tmp 79)), (1, 1, (.const (.int .i64 44)))], none, [5, 4, 3]⟩,⟨some 81, .bsl 2 [(.int .i64 0), (.int .i64 0)] 2 [(0, (.tmp 76)), (1, (.tmp 80))], none, [2, 6, 5, 4, 3]⟩,⟨some 82, .build [(.int .i64 0), (.sl true [])] [(0, 1, (.const (.int .i64 1))), (1, 1, (.tmp 81))], none, [7, 2, 6, 5, 4, 3]⟩,⟨some 83, .bsl 2 [(.int .i64 0), (.sl false [])] 1 [(0, (.tmp 82))], none, [8, 7, 2, 6, 5, 4, 3]⟩,⟨some 84, .app 2 32 (.tmp 75) (.tmp 83), none, [1, 0, 9, 8, 7, 2, 6, 5, 4, 3]⟩,⟨some 85, .fa 2 (.tmp 3), none, [10, 1, 0, 9, 8, 7, 2, 6, 5, 4, 3]⟩,⟨none, .store 1 (.tmp 85) (.tmp 84), none, [11, 10, 1, 0, 9, 8, 7, 2, 6, 5, 4, 3]⟩]
abbrev adsZ : List Nat := [1, 4, 7, 9]
abbrev afFZ (g : String -> Nat) : List AOper := [⟨some 90, .fa 2 (.tmp 3), none, []⟩,⟨some 91, .load 1 false (.tmp 90), none, [0]⟩,⟨some 92, .mov (.tmp 5), none, []⟩,⟨some 93, .iaV (.tmp 91) (.tmp 92) 2, none, [1, 0, 2]⟩,⟨some 94, .fa 1 (.tmp 93), none, [3, 1, 0, 2]⟩,⟨some 95, .load 1 false (.tmp 94), none, [4, 3, 1, 0, 2]⟩,⟨some 96, .fa 2 (.tmp 3), none, []⟩,⟨some 97, .load 1 false (.tmp 96), none, [6]⟩,⟨some 98, .mov (.tmp 5), none, []⟩,⟨some 99, .iaV (.tmp 97) (.tmp 98) 2, none, [7, 6, 8]⟩,⟨some 100, .fa 1 (.tmp 99), none, [9, 7, 6, 8]⟩,⟨some 101, .load 1 false (.tmp 100), none, [10, 9, 7, 6, 8]⟩,⟨some 102, .iaV (.tmp 101) (.const (.int .i64 1)) 2, none, [11, 10, 9, 7, 6, 8]⟩,⟨some 103, .fa 0 (.tmp 102), none, [12, 11, 10, 9, 7, 6, 8]⟩,⟨some 104, .load 1 false (.tmp 103), none, [13, 12, 11, 10, 9, 7, 6, 8]⟩,⟨some 105, .bin .add .no (.tmp 104) (.const (.int .i64 3)), none, [14, 13, 12, 11, 10, 9, 7, 6, 8]⟩,⟨some 106, .iaV (.tmp 95) (.const (.int .i64 1)) 2, none, [5, 4, 3, 1, 0, 2, 15, 14, 13, 12, 11, 10, 9, 7, 6, 8]⟩,⟨some 107, .fa 0 (.tmp 106), none, [16, 5, 4, 3, 1, 0, 2, 15, 14, 13, 12, 11, 10, 9, 7, 6, 8]⟩,⟨none, .store 1 (.tmp 107) (.tmp 105), none, [17, 16, 5, 4, 3, 1, 0, 2, 15, 14, 13, 12, 11, 10, 9, 7, 6, 8]⟩]
abbrev adtZ : List Nat := []
def abzZ (g : String -> Nat) : AFn := ⟨109, [81, 83, 2, 3, 18, 35, 58, 69, 84], [.cell 2 3 true],.seq (.region false [⟨some 2, .alloc [(.int .i64 0), (.int .i64 0), (.sl true [])], none, []⟩]) <| .seq (.region false [⟨some 6, .build [(.int .i64 0), (.int .i64 0), (.sl true [])] [(0, 1, (.const (.int .i64 60))), (1, 1, (.const (.int .i64 50)))], none, []⟩,⟨some 3, .alloc [(.int .i64 0), (.int .i64 0), (.sl true [])], none, []⟩,⟨none, .store 3 (.tmp 3) (.tmp 6), none, [0, 1]⟩]) <| .seq (.region true (afAZ g)) <| .seq (.seq (.region false [⟨some 20, .mov (.tmp 0), none, []⟩,⟨some 21, .callv (.const (.fn (g "(*dactyl/dactylref23.Maker).Take") [] [])) [(.tmp 20), (.const (.int .i64 3))], none, [0]⟩,⟨some 22, .bin .gtr .no (.tmp 21) (.const (.int .i64 0)), none, [1, 0]⟩]) <| .cond (.tmp 22) (.region true (afBZ g)) (.skip)) <| .seq (.region false [⟨some 37, .mov (.tmp 0), none, []⟩,⟨some 38, .callv (.const (.fn (g "(*dactyl/dactylref23.Maker).Take") [] [])) [(.tmp 37), (.const (.int .i64 4))], none, [0]⟩,⟨some 39, .bin .add .no (.const (.int .i64 36)) (.tmp 38), none, [1, 0]⟩,⟨some 4, .mov (.tmp 39), none, [2, 1, 0]⟩]) <| .seq (.seq (.region false [⟨some 40, .mov (.tmp 0), none, []⟩,⟨some 41, .callv (.const (.fn (g "(*dactyl/dactylref23.Maker).Take") [] [])) [(.tmp 40), (.const (.int .i64 2))], none, [0]⟩,⟨some 42, .bin .eql .no (.tmp 41) (.const (.int .i64 0)), none, [1, 0]⟩]) <| .cond (.tmp 42) (.region true (afCZ g)) (.region true (afDZ g))) <| .seq (.seq (.region false [⟨some 71, .mov (.tmp 0), none, []⟩,⟨some 72, .callv (.const (.fn (g "(*dactyl/dactylref23.Maker).Take") [] [])) [(.tmp 71), (.const (.int .i64 3))], none, [0]⟩,⟨some 73, .bin .eql .no (.tmp 72) (.const (.int .i64 0)), none, [1, 0]⟩]) <| .cond (.tmp 73) (.seq (.region true (afEZ g)) <| .seq (.region false [⟨some 86, .fa 2 (.tmp 3), none, []⟩,⟨some 87, .load 1 false (.tmp 86), none, [0]⟩,⟨some 88, .lenV (.tmp 87), none, [1, 0]⟩,⟨some 89, .bin .sub .no (.tmp 88) (.const (.int .i64 1)), none, [2, 1, 0]⟩,⟨some 5, .mov (.tmp 89), none, [3, 2, 1, 0]⟩]) <| .region true (afFZ g)) (.skip)) <| .seq (.seq (.frz [(1, 94)]) <| .region false [⟨some 108, .load 3 true (.tmp 3), none, []⟩,⟨none, .store 3 (.tmp 2) (.tmp 108), none, [0]⟩]) <| .ret⟩
def aewZ (g : String -> Nat) : AFn := ⟨30, [], [.tmp 8],.seq (.region false [⟨some 8, .mov (.const (.sl true [])), none, []⟩]) <| .seq (.region false [⟨some 9, .mov (.tmp 0), none, []⟩,⟨some 10, .mov (.tmp 1), none, []⟩,⟨some 11, .build [(.int .i64 0), (.int .i64 0)] [(0, 1, (.tmp 9)), (1, 1, (.tmp 10))], none, [0, 1]⟩,⟨some 12, .mov (.tmp 0), none, []⟩,⟨some 13, .mov (.tmp 2), none, []⟩,⟨some 14, .bin .add .no (.tmp 12) (.tmp 13), none, [3, 4]⟩,⟨some 15, .mov (.tmp 1), none, []⟩,⟨some 16, .build [(.int .i64 0), (.int .i64 0)] [(0, 1, (.tmp 14)), (1, 1, (.tmp 15))], none, [5, 3, 4, 6]⟩,⟨some 17, .mov (.tmp 0), none, []⟩,⟨some 18, .mov (.tmp 2), none, []⟩,⟨some 19, .bin .add .no (.tmp 17) (.tmp 18), none, [8, 9]⟩,⟨some 20, .mov (.tmp 1), none, []⟩,⟨some 21, .mov (.tmp 3), none, []⟩,⟨some 22, .bin .add .no (.tmp 20) (.tmp 21), none, [11, 12]⟩,⟨some 23, .build [(.int .i64 0), (.int .i64 0)] [(0, 1, (.tmp 19)), (1, 1, (.tmp 22))], none, [10, 8, 9, 13, 11, 12]⟩,⟨some 24, .mov (.tmp 0), none, []⟩,⟨some 25, .mov (.tmp 1), none, []⟩,⟨some 26, .mov (.tmp 3), none, []⟩,⟨some 27, .bin .add .no (.tmp 25) (.tmp 26), none, [16, 17]⟩,⟨some 28, .build [(.int .i64 0), (.int .i64 0)] [(0, 1, (.tmp 24)), (1, 1, (.tmp 27))], none, [15, 18, 16, 17]⟩,⟨some 29, .bsl 2 [(.int .i64 0), (.int .i64 0)] 4 [(0, (.tmp 11)), (1, (.tmp 16)), (2, (.tmp 23)), (3, (.tmp 28))], none, [2, 0, 1, 7, 5, 3, 4, 6, 14, 10, 8, 9, 13, 11, 12, 19, 15, 18, 16, 17]⟩,⟨some 8, .mov (.tmp 29), none, [20, 2, 0, 1, 7, 5, 3, 4, 6, 14, 10, 8, 9, 13, 11, 12, 19, 15, 18, 16, 17]⟩]) <| .ret⟩
set_option maxHeartbeats 1600000 in
theorem awOZ {A : AProg} {g : String -> Nat} (h : Has A g "(*dactyl/dactylref23.Maker).Expr" (acaZ g)) (ht : abIZ A g)
  (htm : ∀ d : Nat, d <= 3 -> aaMZ A (g "(*dactyl/dactylref23.Maker).term") [vi d] (alnZ (d + 1))) : aaMZ A (g "(*dactyl/dactylref23.Maker).Expr") [vi 3] (alnZ 4) := by
 refine h.gen (by simp [acaZ]) (fun n => by kernel_rfl) ?_
 intro l i o v H hl hlt ho
 have h2 : aaMZ A (g "(*dactyl/dactylref23.Maker).term") [vi 2] (alnZ 3) := htm 2 (by decide)
 have h3 : aaMZ A (g "(*dactyl/dactylref23.Maker).term") [vi 3] (alnZ 4) := htm 3 (by decide)
 have hw2 : IntKind.i64.wrap 2 = 2 := wrap_i64 (by decide) (by decide)
 simp only [acaZ]
 simp only [go_sem, ↓reduceIte, NB, NA, NL, NE]
 refine aalZ (aakZ ht (m := 4) (by decide)) hl (i := i) (by simp only [go_sem, acmZ, hlt, ho]) ?_
 rintro val i1 ⟨x, rfl, hx0, hx1⟩
 simp only [go_sem, ↓reduceIte, hlt, aciZ]
 refine aacZ (fun hb => ?_) (fun hb => ?_)
 ·simp only [go_sem, ↓reduceIte, NB, NE, IS, hlt, hw2]
  refine aalZ h2 hl (i := i1) (by simp only [go_sem, aagZ, hlt]) ?_
  rintro val i2 ⟨a, rfl, ha⟩
  simp only [go_sem, ↓reduceIte, NA, NL, hlt, aahZ, aeRZ, abOZ (abpZ _)]
  refine aaPZ (keep := adZZ) (by rfl) (by rfl) ?_
  simp only [go_sem, ↓reduceIte, NB, NA, NL, ND, NE, IS, adZZ]
  refine abaZ (aakZ ht (m := 2) (by decide)) hl (i := i2) (by simp only [go_sem, aagZ, hlt]) ?_
  rintro val i3 ⟨y, rfl, hy0, hy1⟩
  have hwy : IntKind.i64.wrap (9 + y) = 9 + y := wrap_i64 (by omega) (by omega)
  have htk : ∀ e : Expr, List.take 3 (aaGZ e) = aaGZ e := fun e => List.take_of_length_le (by rw [aeRZ]; exact Nat.le_refl _)
  have hne : (H.length + 1 == o) = false := by simp; omega
  simp only [go_sem, ↓reduceIte, NA, hlt, aahZ, hwy, hw2, aeRZ, htk, aaoZ (abpZ _), abFZ (abpZ _)]
  refine abaZ h2 hl (i := i3) (by simp only [go_sem, aagZ, hlt]) ?_
  rintro val i4 ⟨b, rfl, hb2⟩
  simp only [go_sem, ↓reduceIte, NB, NA, BF, hlt, aahZ, aeRZ, aaoZ (abpZ _), abFZ (abpZ _), acUZ, acEZ, hne, aavZ, aajZ, adUZ (abpZ _), aaaZ (aabZ aasZ _)]
  refine ⟨⟨i4, rfl⟩, .mk (9 + y) 0 [a, b], rfl, .mk _ _ _ _ ⟨by omega, by omega⟩ ⟨by decide, by decide⟩ (by simp) ?_ (.inr (.inr ⟨rfl, .inr ⟨by omega, by omega⟩⟩))⟩
  intro e he
  simp only [List.mem_cons, List.not_mem_nil, or_false] at he
  rcases he with rfl | rfl
  ·exact ha
  ·exact hb2
 ·simp only [go_sem, ↓reduceIte, NB, NE]
  refine aalZ h3 hl (i := i1) (by simp only [go_sem, aagZ, hlt]) ?_
  rintro val i2 ⟨a, rfl, ha⟩
  have htk : List.take 3 (aaGZ a) = aaGZ a := List.take_of_length_le (by rw [aeRZ]; exact Nat.le_refl _)
  simp only [go_sem, ↓reduceIte, NA, hlt, aahZ, aeRZ, abOZ (abpZ _), htk, aaFZ (abpZ _), aaoZ (abpZ _), aajZ, adUZ (abpZ _), aaaZ (aabZ aasZ _)]
  exact ⟨⟨i2, rfl⟩, a, rfl, ha⟩
end Go.AM
end
