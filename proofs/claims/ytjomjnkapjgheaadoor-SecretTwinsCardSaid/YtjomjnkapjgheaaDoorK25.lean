/- Part 25 of the proof that stands in the last text of this folder (lemmas; no statement of its own). -/
import Derived.Test.YtjomjnkapjgheaaDoorK17
import Derived.Test.YtjomjnkapjgheaaDoorK23
import Derived.Test.YtjomjnkapjgheaaDoorK24
section
open Nat renaming reduceBEq → NB, reduceAdd → NA, reduceSub → NS, reduceMul → NM, reduceLT → NL, reduceLeDiff → ND, reduceEqDiff → NE
open Int renaming reduceLT → IL, reduceLE → ID, reduceToNat → IT, reduceEq → IE, reduceBEq → IB, reduceBNe → IN, reduceAdd → IA, reduceSub → IS, reduceNeg → IM
open Bool renaming not_true → BT, not_false → BF
set_option linter.unusedVariables false
set_option maxRecDepth 8000
namespace Go.Proofs.AM
open Go
def dactylref23_spoiltBlock_b0 (g : String → Nat) : ACode := .block 0 (.seq (.region false [⟨some 22, .bin .eql .no (.tmp 8) (.const (.int .i64 0)), none, []⟩,⟨some 21, .mov (.tmp 22), none, [0]⟩]) <| .cond (.tmp 21) (.region false [⟨some 23, .mov (.tmp 2), none, []⟩,⟨some 24, .callv (.const (.fn (g "dactyl/dactylref01.Around") [] [])) [(.tmp 23), (.const (.int .i64 9))], none, [0]⟩,⟨some 25, .bin .sub .no (.tmp 24) (.const (.int .i64 1)), none, [1, 0]⟩,⟨some 26, .fa 0 (.tmp 3), none, [2, 1, 0]⟩,⟨none, .store 1 (.tmp 26) (.tmp 25), none, [3, 2, 1, 0]⟩]) (.seq (.region false [⟨some 28, .bin .eql .no (.tmp 8) (.const (.int .i64 1)), none, []⟩,⟨some 27, .mov (.tmp 28), none, [0]⟩]) <| .cond (.tmp 27) (.region false [⟨some 29, .bsl 2 [(.int .i64 0), (.str [])] 0 [], none, []⟩,⟨some 30, .fa 1 (.tmp 3), none, []⟩,⟨some 31, .load 1 false (.tmp 30), none, [1]⟩,⟨some 32, .app 2 24 (.tmp 29) (.tmp 31), none, [0, 2, 1]⟩,⟨some 33, .mov (.tmp 2), none, []⟩,⟨some 34, .callv (.const (.fn (g "dactyl/dactylref01.Around") [] [])) [(.tmp 33), (.const (.int .i64 4))], none, [4, 3, 0, 2, 1]⟩,⟨some 35, .bin .sub .no (.tmp 34) (.const (.int .i64 1)), none, [5, 4, 3, 0, 2, 1]⟩,⟨some 36, .bsl 1 [(.str [])] 4 [(0, (.const (.str []))), (1, (.const (.str [120]))), (2, (.const (.str [10]))), (3, (.const (.str [126])))], none, []⟩,⟨some 37, .mov (.tmp 2), none, []⟩,⟨some 38, .callv (.const (.fn (g "dactyl/dactylref01.Around") [] [])) [(.tmp 37), (.const (.int .i64 4))], none, [8, 5, 4, 3, 0, 2, 1]⟩,⟨some 39, .iaV (.tmp 36) (.tmp 38) 1, none, [7, 9, 8, 5, 4, 3, 0, 2, 1]⟩,⟨some 40, .load 1 false (.tmp 39), none, [10, 7, 9, 8, 5, 4, 3, 0, 2, 1]⟩,⟨some 41, .build [(.int .i64 0), (.str [])] [(0, 1, (.tmp 35)), (1, 1, (.tmp 40))], none, [6, 11, 10, 7, 9, 8, 5, 4, 3, 0, 2, 1]⟩,⟨some 42, .bsl 2 [(.int .i64 0), (.str [])] 1 [(0, (.tmp 41))], none, [12, 6, 11, 10, 7, 9, 8, 5, 4, 3, 0, 2, 1]⟩,⟨some 43, .app 2 24 (.tmp 32) (.tmp 42), none, [13, 12, 6, 11, 10, 7, 9, 8, 5, 4, 3, 0, 2, 1]⟩,⟨some 44, .fa 1 (.tmp 3), none, [14, 13, 12, 6, 11, 10, 7, 9, 8, 5, 4, 3, 0, 2, 1]⟩,⟨none, .store 1 (.tmp 44) (.tmp 43), none, [15, 14, 13, 12, 6, 11, 10, 7, 9, 8, 5, 4, 3, 0, 2, 1]⟩]) (.seq (.region false [⟨some 46, .bin .eql .no (.tmp 8) (.const (.int .i64 2)), none, []⟩,⟨some 45, .mov (.tmp 46), none, [0]⟩]) <| .cond (.tmp 45) (.region false [⟨some 47, .bsl 3 [(.int .i64 0), (.int .i64 0), (.sl false [])] 0 [], none, []⟩,⟨some 48, .fa 2 (.tmp 3), none, []⟩,⟨some 49, .fa 2 (.tmp 48), none, [1]⟩,⟨some 50, .load 1 false (.tmp 49), none, [2, 1]⟩,⟨some 51, .app 3 40 (.tmp 47) (.tmp 50), none, [0, 3, 2, 1]⟩,⟨some 52, .mov (.tmp 2), none, []⟩,⟨some 53, .build [(.int .i64 0), (.int .i64 0), (.sl true [])] [(1, 1, (.tmp 52))], none, [5]⟩,⟨some 54, .bsl 3 [(.int .i64 0), (.int .i64 0), (.sl false [])] 1 [(0, (.tmp 53))], none, [6, 5]⟩,⟨some 55, .app 3 40 (.tmp 51) (.tmp 54), none, [7, 6, 5, 4, 0, 3, 2, 1]⟩,⟨some 56, .fa 2 (.tmp 3), none, [8, 7, 6, 5, 4, 0, 3, 2, 1]⟩,⟨some 57, .fa 2 (.tmp 56), none, [9, 8, 7, 6, 5, 4, 0, 3, 2, 1]⟩,⟨none, .store 1 (.tmp 57) (.tmp 55), none, [10, 9, 8, 7, 6, 5, 4, 0, 3, 2, 1]⟩]) (.seq (.region false [⟨some 59, .bin .eql .no (.tmp 8) (.const (.int .i64 3)), none, []⟩,⟨some 58, .mov (.tmp 59), none, [0]⟩]) <| .cond (.tmp 58) (.region false [⟨some 60, .bsl 1 [(.int .i64 0)] 0 [], none, []⟩,⟨some 61, .fa 5 (.tmp 3), none, []⟩,⟨some 62, .fa 1 (.tmp 61), none, [1]⟩,⟨some 63, .load 1 false (.tmp 62), none, [2, 1]⟩,⟨some 64, .app 1 8 (.tmp 60) (.tmp 63), none, [0, 3, 2, 1]⟩,⟨some 65, .bsl 1 [(.int .i64 0)] 4 [(0, (.const (.int .i64 (-1)))), (1, (.const (.int .i64 0))), (2, (.const (.int .i64 999999))), (3, (.const (.int .i64 1000000)))], none, []⟩,⟨some 66, .mov (.tmp 2), none, []⟩,⟨some 67, .callv (.const (.fn (g "dactyl/dactylref01.Around") [] [])) [(.tmp 66), (.const (.int .i64 4))], none, [6, 4, 0, 3, 2, 1]⟩,⟨some 68, .iaV (.tmp 65) (.tmp 67) 1, none, [5, 7, 6, 4, 0, 3, 2, 1]⟩,⟨some 69, .load 1 false (.tmp 68), none, [8, 5, 7, 6, 4, 0, 3, 2, 1]⟩,⟨some 70, .bsl 1 [(.int .i64 0)] 1 [(0, (.tmp 69))], none, [9, 8, 5, 7, 6, 4, 0, 3, 2, 1]⟩,⟨some 71, .app 1 8 (.tmp 64) (.tmp 70), none, [10, 9, 8, 5, 7, 6, 4, 0, 3, 2, 1]⟩,⟨some 72, .fa 5 (.tmp 3), none, [11, 10, 9, 8, 5, 7, 6, 4, 0, 3, 2, 1]⟩,⟨some 73, .fa 1 (.tmp 72), none, [12, 11, 10, 9, 8, 5, 7, 6, 4, 0, 3, 2, 1]⟩,⟨none, .store 1 (.tmp 73) (.tmp 71), none, [13, 12, 11, 10, 9, 8, 5, 7, 6, 4, 0, 3, 2, 1]⟩]) (.seq (.region false [⟨some 75, .bin .eql .no (.tmp 8) (.const (.int .i64 4)), none, []⟩,⟨some 74, .mov (.tmp 75), none, [0]⟩]) <| .cond (.tmp 74) (.region false [⟨some 76, .bsl 1 [(.sl false [])] 0 [], none, []⟩,⟨some 77, .fa 7 (.tmp 3), none, []⟩,⟨some 78, .fa 0 (.tmp 77), none, [1]⟩,⟨some 79, .load 1 false (.tmp 78), none, [2, 1]⟩,⟨some 80, .app 1 24 (.tmp 76) (.tmp 79), none, [0, 3, 2, 1]⟩,⟨some 81, .bsl 1 [(.str [])] 2 [(0, (.const (.str [97]))), (1, (.const (.str [50, 49, 32, 98, 121, 116, 101, 115, 32, 97, 114, 101, 32, 116, 111, 111, 32, 109, 117, 99, 104, 46])))], none, []⟩,⟨some 82, .mov (.tmp 2), none, []⟩,⟨some 83, .callv (.const (.fn (g "dactyl/dactylref01.Around") [] [])) [(.tmp 82), (.const (.int .i64 3))], none, [6, 4, 0, 3, 2, 1]⟩,⟨some 84, .sliceV 1 (.tmp 81) none (some (.tmp 83)) none, none, [5, 7, 6, 4, 0, 3, 2, 1]⟩,⟨some 85, .bsl 1 [(.sl false [])] 1 [(0, (.tmp 84))], none, [8, 5, 7, 6, 4, 0, 3, 2, 1]⟩,⟨some 86, .app 1 24 (.tmp 80) (.tmp 85), none, [9, 8, 5, 7, 6, 4, 0, 3, 2, 1]⟩,⟨some 87, .fa 7 (.tmp 3), none, [10, 9, 8, 5, 7, 6, 4, 0, 3, 2, 1]⟩,⟨some 88, .fa 0 (.tmp 87), none, [11, 10, 9, 8, 5, 7, 6, 4, 0, 3, 2, 1]⟩,⟨none, .store 1 (.tmp 88) (.tmp 86), none, [12, 11, 10, 9, 8, 5, 7, 6, 4, 0, 3, 2, 1]⟩]) (.seq (.region false [⟨some 90, .bin .eql .no (.tmp 8) (.const (.int .i64 5)), none, []⟩,⟨some 89, .mov (.tmp 90), none, [0]⟩]) <| .cond (.tmp 89) (.region false [⟨some 91, .bsl 1 [(.int .i64 0)] 4 [(0, (.const (.int .i64 0))), (1, (.const (.int .i64 1))), (2, (.const (.int .i64 1000))), (3, (.const (.int .i64 1001)))], none, []⟩,⟨some 92, .mov (.tmp 2), none, []⟩,⟨some 93, .callv (.const (.fn (g "dactyl/dactylref01.Around") [] [])) [(.tmp 92), (.const (.int .i64 4))], none, [1]⟩,⟨some 94, .iaV (.tmp 91) (.tmp 93) 1, none, [0, 2, 1]⟩,⟨some 95, .load 1 false (.tmp 94), none, [3, 0, 2, 1]⟩,⟨some 96, .fa 8 (.tmp 3), none, [4, 3, 0, 2, 1]⟩,⟨some 97, .fa 0 (.tmp 96), none, [5, 4, 3, 0, 2, 1]⟩,⟨none, .store 1 (.tmp 97) (.tmp 95), none, [6, 5, 4, 3, 0, 2, 1]⟩]) (.seq (.region false [⟨some 99, .bin .eql .no (.tmp 8) (.const (.int .i64 6)), none, []⟩,⟨some 98, .mov (.tmp 99), none, [0]⟩]) <| .cond (.tmp 98) (.region false [⟨some 100, .bsl 1 [(.sl false [])] 0 [], none, []⟩,⟨some 101, .fa 11 (.tmp 3), none, []⟩,⟨some 102, .fa 0 (.tmp 101), none, [1]⟩,⟨some 103, .load 1 false (.tmp 102), none, [2, 1]⟩,⟨some 104, .app 1 24 (.tmp 100) (.tmp 103), none, [0, 3, 2, 1]⟩,⟨some 105, .mov (.tmp 2), none, []⟩,⟨some 106, .callv (.const (.fn (g "dactyl/dactylref01.Around") [] [])) [(.tmp 105), (.const (.int .i64 52))], none, [5, 4, 0, 3, 2, 1]⟩,⟨some 107, .bin .sub .no (.tmp 106) (.const (.int .i64 2)), none, [6, 5, 4, 0, 3, 2, 1]⟩,⟨some 108, .build [(.int .i64 0), (.int .i64 0), (.int .i64 0)] [(0, 1, (.tmp 107))], none, [7, 6, 5, 4, 0, 3, 2, 1]⟩,⟨some 109, .bsl 3 [(.int .i64 0), (.int .i64 0), (.int .i64 0)] 1 [(0, (.tmp 108))], none, [8, 7, 6, 5, 4, 0, 3, 2, 1]⟩,⟨some 110, .bsl 1 [(.sl false [])] 1 [(0, (.tmp 109))], none, [9, 8, 7, 6, 5, 4, 0, 3, 2, 1]⟩,⟨some 111, .bsl 1 [(.sl false [])] 1 [(0, (.tmp 110))], none, [10, 9, 8, 7, 6, 5, 4, 0, 3, 2, 1]⟩,⟨some 112, .app 1 24 (.tmp 104) (.tmp 111), none, [11, 10, 9, 8, 7, 6, 5, 4, 0, 3, 2, 1]⟩,⟨some 113, .fa 11 (.tmp 3), none, [12, 11, 10, 9, 8, 7, 6, 5, 4, 0, 3, 2, 1]⟩,⟨some 114, .fa 0 (.tmp 113), none, [13, 12, 11, 10, 9, 8, 7, 6, 5, 4, 0, 3, 2, 1]⟩,⟨none, .store 1 (.tmp 114) (.tmp 112), none, [14, 13, 12, 11, 10, 9, 8, 7, 6, 5, 4, 0, 3, 2, 1]⟩]) (.region false [⟨some 9, .bsl 1 [(.str [])] 0 [], none, []⟩,⟨some 10, .fa 12 (.tmp 3), none, []⟩,⟨some 11, .load 1 false (.tmp 10), none, [1]⟩,⟨some 12, .app 1 16 (.tmp 9) (.tmp 11), none, [0, 2, 1]⟩,⟨some 13, .bsl 1 [(.str [])] 3 [(0, (.const (.str []))), (1, (.const (.str [120]))), (2, (.const (.str [9])))], none, []⟩,⟨some 14, .mov (.tmp 2), none, []⟩,⟨some 15, .callv (.const (.fn (g "dactyl/dactylref01.Around") [] [])) [(.tmp 14), (.const (.int .i64 3))], none, [5, 3, 0, 2, 1]⟩,⟨some 16, .iaV (.tmp 13) (.tmp 15) 1, none, [4, 6, 5, 3, 0, 2, 1]⟩,⟨some 17, .load 1 false (.tmp 16), none, [7, 4, 6, 5, 3, 0, 2, 1]⟩,⟨some 18, .bsl 1 [(.str [])] 1 [(0, (.tmp 17))], none, [8, 7, 4, 6, 5, 3, 0, 2, 1]⟩,⟨some 19, .app 1 16 (.tmp 12) (.tmp 18), none, [9, 8, 7, 4, 6, 5, 3, 0, 2, 1]⟩,⟨some 20, .fa 12 (.tmp 3), none, [10, 9, 8, 7, 4, 6, 5, 3, 0, 2, 1]⟩,⟨none, .store 1 (.tmp 20) (.tmp 19), none, [11, 10, 9, 8, 7, 4, 6, 5, 3, 0, 2, 1]⟩]))))))))
def dactylref23_spoiltBlock (g : String → Nat) : AFn := ⟨116, [3, 6, 32, 43, 51, 55, 64, 71, 80, 86, 104, 112, 12, 19], [.cell 6 13 true],
  .seq (.region false [⟨some 3, .box 13 (.tmp 0), none, []⟩,
    ⟨some 6, .alloc [(.int .i64 0), (.sl true []), (.int .i64 0), (.int .i64 0), (.sl true []), (.int .i64 0), (.sl true []), (.sl true []), (.int .i64 0), (.int .i64 0), (.sl true []), (.sl true []), (.sl true [])], none, []⟩]) <|
  .seq (.seq (.region false [⟨some 7, .mov (.tmp 1), none, []⟩,
    ⟨some 8, .callv (.const (.fn (g "dactyl/dactylref01.Around") [] [])) [(.tmp 7), (.const (.int .i64 8))], none, [0]⟩]) <|
  dactylref23_spoiltBlock_b0 g) <|
  .seq (.region false [⟨some 115, .load 13 true (.tmp 3), none, []⟩,
    ⟨none, .store 13 (.tmp 6) (.tmp 115), none, [0]⟩]) <|
  .ret⟩
structure BSlack (b : Block) : Prop where
  runs : b.runs.length ≤ 15
  kids : ∀ op n ks, b.expr = .mk op n ks → ks.length ≤ 15
  size : esize b.expr ≤ 999
  sumA : b.sumA.length ≤ 15
  grid : b.grid.length ≤ 15
  hands : b.hands.length ≤ 15
  lines : b.lines.length ≤ 15
theorem MBlock.bslack {b : Block} (h : MBlock b) : BSlack b := by
  obtain ⟨h1, h2, h3, h4⟩ := h.slack
  obtain ⟨k1, k2, k3, k4⟩ := h.lens
  exact ⟨by omega, fun op n ks e => by have := h4 op n ks e; omega, by omega, by omega, by omega, by omega, by omega⟩
theorem esizes_app : ∀ (l : List Expr) (e : Expr), esizes (l ++ [e]) = esizes l + esize e
  | [], e => by simp [esizes]
  | a :: l, e => by rw [List.cons_append, esizes, esizes, esizes_app l e]; omega
set_option maxHeartbeats 6400000 in
theorem spoiltB_spec {A : AProg} {g : String → Nat} (h : Has A g "dactyl/dactylref23.spoiltBlock" (dactylref23_spoiltBlock g)) (ha : SpecAround A g) {b : Block} (hq : b.Ok) (hs : BSlack b) {how by' : Int} (hby : IntOk by') (H : List AObj) :
    ∃ v H' wr, callI A (g "dactyl/dactylref23.spoiltBlock") [.agg (encBlock b), vi how, vi by'] H = some (v, H', wr) ∧ (H' = H ∧ wr = [] ∧ ∃ b1 : Block, v = .agg (encBlock b1) ∧ b1.Ok) := by
  refine h.callEx (by simp [dactylref23_spoiltBlock]) (by kernel_rfl) ?_
  have fin : ∀ b1 : Block, b1.Ok → ∀ v : AV, v = .agg (encBlock b1) → ∃ b2 : Block, v = .agg (encBlock b2) ∧ b2.Ok := fun b1 h v e => ⟨b1, e, h⟩
  have hl1 := hs.runs
  have hl3 := hs.sumA
  have hl4 := hs.grid
  have hl6 := hs.hands
  have hl7 := hs.lines
  cases hbe : b.expr with | mk op n kids =>
  have hl2 := hs.kids op n kids hbe
  have hex := hq.expr
  have hsz := hs.size
  rw [hbe] at hex hsz
  obtain ⟨x1, x2, x3, x4⟩ : IntOk op ∧ IntOk n ∧ kids.length ≤ 16 ∧ ∀ e ∈ kids, Expr.Ok e := by cases hex; exact ⟨by assumption, by assumption, by assumption, by assumption⟩
  rw [esize] at hsz
  simp only [dactylref23_spoiltBlock, dactylref23_spoiltBlock_b0]
  have h9 := around_sub (c := 1) hby (m := 9) (by decide) (by decide) (by decide) (by decide)
  have h4 := around_sub (c := 1) hby (m := 4) (by decide) (by decide) (by decide) (by decide)
  have h52 := around_sub (c := 2) hby (m := 52) (by decide) (by decide) (by decide) (by decide)
  obtain ⟨k1, k2⟩ := around_ok hby (m := 4) (by decide)
  simp only [go_sem, ↓reduceIte, NB, NA, NL, NE, IM, encBlock, hbe, encExpr, encExprs_map', ha how]
  refine branch_intro (fun hb => ?_) (fun hb => ?_)
  · simp only [go_sem, ↓reduceIte, NB, NA, ND, NE, ha by', h9.1, underLL_of_data (dataLL_map data_run _), underLL_of_data (dataLL_map data_expr _), underLL_of_data (dataLL_map data_str _), underLL_of_data (dataLL_map data_int _), underLL_of_data (dataLL_map data_row _), underLL_of_data (dataLL_map data_shape _), underLL_of_data (dataLL_map data_hand _)]
    exact fin { b with kind := around by' 9 - 1 } { hq with kind := h9.2 } _ (by simp [encBlock, hbe, encExpr, encExprs_map'])
  simp only [go_sem, NB, IM]
  refine branch_intro (fun hb => ?_) (fun hb => ?_)
  · obtain ⟨t, htm, htab⟩ := tabS [[], [120], [10], [126]] k1 k2
    simp only [List.map, encStr] at htab
    have htl : TextOk t := by
      have : ∀ s ∈ ([[], [120], [10], [126]] : List Str), TextOk s := by decide
      exact this t htm
    have ho : ({ b with runs := b.runs ++ [Run.mk (around by' 4 - 1) t] : Block }).Ok := { hq with lenR := app_len hl1, runs := app_ok hq.runs ⟨h4.2, htl⟩ }
    have hm : ∀ l, l.map encRun ++ [encRun (Run.mk (around by' 4 - 1) t)] = (l ++ [Run.mk (around by' 4 - 1) t]).map encRun := fun l => by simp
    simp only [encRun] at hm
    cases hoe : b.runs with
    | nil =>
      rw [hoe] at ho
      simp only [go_sem, ↓reduceIte, NB, NA, NL, ND, NE, BT, ha by', h4.1, k1, htab, roomy_of, underLL_of_data (dataLL_map data_expr _), underLL_of_data (dataLL_map data_str _), underLL_of_data (dataLL_map data_int _), underLL_of_data (dataLL_map data_row _), underLL_of_data (dataLL_map data_shape _), underLL_of_data (dataLL_map data_hand _)]
      exact fin _ ho _ (by simp [encBlock, hbe, encExpr, encExprs_map', encRun])
    | cons a r =>
      rw [hoe] at ho hl1
      have hr1 : roomy (r.length + 1) 24 = true := roomy_of (by simp at hl1 ⊢; omega) (by decide)
      have hr2 : roomy (r.length + 1 + 1) 24 = true := roomy_of (by simp at hl1 ⊢; omega) (by decide)
      have hln : (encRun a).length = 2 := by first | rfl | exact len_expr a
      have hst : (encRun a).all AV.still = true := allStill_of_data (data_run a)
      simp only [go_sem, ↓reduceIte, NB, NA, NL, ND, NE, BT, ha by', h4.1, k1, htab, hr1, hr2, hm, hln, hst, allStill_rows (dataLL_map data_run _), underL_of_data (data_run a), underLL_of_data (dataLL_map data_run _), underLL_of_data (dataLL_map data_expr _), underLL_of_data (dataLL_map data_str _), underLL_of_data (dataLL_map data_int _), underLL_of_data (dataLL_map data_row _), underLL_of_data (dataLL_map data_shape _), underLL_of_data (dataLL_map data_hand _)]
      exact fin _ ho _ (by simp [encBlock, hbe, encExpr, encExprs_map', encRun])
  simp only [go_sem, NB, IM]
  refine branch_intro (fun hb => ?_) (fun hb => ?_)
  · have hes : esizes (kids ++ [Expr.mk 0 by' []]) + 1 ≤ 1000 := by rw [esizes_app, esize, esizes]; omega
    have ho : ({ b with expr := .mk op n (kids ++ [Expr.mk 0 by' []]) : Block }).Ok := { hq with expr := .mk _ _ _ x1 x2 (app_len hl2) (app_ok x4 (.mk _ _ _ zero_ok hby (by simp) (by simp))), size := by rw [esize]; exact hes }
    have hm : ∀ l, l.map encExpr ++ [encExpr (Expr.mk 0 by' [])] = (l ++ [Expr.mk 0 by' []]).map encExpr := fun l => by simp
    simp only [encExpr, encExprs] at hm
    cases hoe : kids with
    | nil =>
      rw [hoe] at ho
      simp only [go_sem, ↓reduceIte, NB, NA, NL, ND, NE, BT, roomy_of, underLL_of_data (dataLL_map data_run _), underLL_of_data (dataLL_map data_str _), underLL_of_data (dataLL_map data_int _), underLL_of_data (dataLL_map data_row _), underLL_of_data (dataLL_map data_shape _), underLL_of_data (dataLL_map data_hand _)]
      exact fin _ ho _ (by simp [encBlock, encExpr, encExprs_map', encExpr, encExprs])
    | cons a r =>
      rw [hoe] at ho hl2
      have hr1 : roomy (r.length + 1) 40 = true := roomy_of (by simp at hl2 ⊢; omega) (by decide)
      have hr2 : roomy (r.length + 1 + 1) 40 = true := roomy_of (by simp at hl2 ⊢; omega) (by decide)
      have hln : (encExpr a).length = 3 := by first | rfl | exact len_expr a
      have hst : (encExpr a).all AV.still = true := allStill_of_data (data_expr a)
      simp only [go_sem, ↓reduceIte, NB, NA, NL, ND, NE, BT, hr1, hr2, hm, hln, hst, allStill_rows (dataLL_map data_expr _), underL_of_data (data_expr a), underLL_of_data (dataLL_map data_run _), underLL_of_data (dataLL_map data_expr _), underLL_of_data (dataLL_map data_str _), underLL_of_data (dataLL_map data_int _), underLL_of_data (dataLL_map data_row _), underLL_of_data (dataLL_map data_shape _), underLL_of_data (dataLL_map data_hand _)]
      exact fin _ ho _ (by simp [encBlock, encExpr, encExprs_map', encExpr, encExprs])
  simp only [go_sem, NB, IM]
  refine branch_intro (fun hb => ?_) (fun hb => ?_)
  · obtain ⟨t, htm, htab⟩ := tabI [-1, 0, 999999, 1000000] k1 k2
    simp only [List.map, encInt] at htab
    have htl : IntOk t := by
      have : ∀ s ∈ ([-1, 0, 999999, 1000000] : List Int), IntOk s := by decide
      exact this t htm
    have ho : ({ b with sumA := b.sumA ++ [t] : Block }).Ok := { hq with lenA := app_len hl3, sumA := app_ok hq.sumA htl }
    have hm : ∀ l, l.map encInt ++ [encInt (t)] = (l ++ [t]).map encInt := fun l => by simp
    simp only [encInt] at hm
    cases hoe : b.sumA with
    | nil =>
      rw [hoe] at ho
      simp only [go_sem, ↓reduceIte, NB, NA, NL, ND, NE, IM, BT, ha by', k1, htab, roomy_of, underLL_of_data (dataLL_map data_run _), underLL_of_data (dataLL_map data_expr _), underLL_of_data (dataLL_map data_str _), underLL_of_data (dataLL_map data_row _), underLL_of_data (dataLL_map data_shape _), underLL_of_data (dataLL_map data_hand _)]
      exact fin _ ho _ (by simp [encBlock, hbe, encExpr, encExprs_map', encInt])
    | cons a r =>
      rw [hoe] at ho hl3
      have hr1 : roomy (r.length + 1) 8 = true := roomy_of (by simp at hl3 ⊢; omega) (by decide)
      have hr2 : roomy (r.length + 1 + 1) 8 = true := roomy_of (by simp at hl3 ⊢; omega) (by decide)
      have hln : (encInt a).length = 1 := by first | rfl | exact len_expr a
      have hst : (encInt a).all AV.still = true := allStill_of_data (data_int a)
      simp only [go_sem, ↓reduceIte, NB, NA, NL, ND, NE, IM, BT, ha by', k1, htab, hr1, hr2, hm, hln, hst, allStill_rows (dataLL_map data_int _), underL_of_data (data_int a), underLL_of_data (dataLL_map data_run _), underLL_of_data (dataLL_map data_expr _), underLL_of_data (dataLL_map data_str _), underLL_of_data (dataLL_map data_int _), underLL_of_data (dataLL_map data_row _), underLL_of_data (dataLL_map data_shape _), underLL_of_data (dataLL_map data_hand _)]
      exact fin _ ho _ (by simp [encBlock, hbe, encExpr, encExprs_map', encInt])
  simp only [go_sem, NB]
  refine branch_intro (fun hb => ?_) (fun hb => ?_)
  · obtain ⟨j1, j2⟩ := around_ok hby (m := 3) (by decide)
    have hc : around by' 3 = 0 ∨ around by' 3 = 1 ∨ around by' 3 = 2 := by omega
    rcases hc with h3 | h3 | h3
    · skip
      have ho : ({ b with grid := b.grid ++ [([] : List Str)] : Block }).Ok := { hq with lenG := app_len hl4, grid := app_ok hq.grid ⟨by simp, by decide⟩ }
      have hm : ∀ l, l.map encRow ++ [encRow (([] : List Str))] = (l ++ [([] : List Str)]).map encRow := fun l => by simp
      simp only [encRow, List.map_nil] at hm
      cases hoe : b.grid with
      | nil =>
        rw [hoe] at ho
        simp only [go_sem, ↓reduceIte, NB, NA, NL, ND, NE, ID, IT, BT, BF, reduceCtorEq, ha by', h3, bounds, boundV, roomy_of, underLL_of_data (dataLL_map data_run _), underLL_of_data (dataLL_map data_expr _), underLL_of_data (dataLL_map data_str _), underLL_of_data (dataLL_map data_int _), underLL_of_data (dataLL_map data_shape _), underLL_of_data (dataLL_map data_hand _)]
        exact fin _ ho _ (by simp [encBlock, hbe, encExpr, encExprs_map', encRow])
      | cons a r =>
        rw [hoe] at ho hl4
        have hr1 : roomy (r.length + 1) 24 = true := roomy_of (by simp at hl4 ⊢; omega) (by decide)
        have hr2 : roomy (r.length + 1 + 1) 24 = true := roomy_of (by simp at hl4 ⊢; omega) (by decide)
        have hln : (encRow a).length = 1 := by first | rfl | exact len_expr a
        have hst : (encRow a).all AV.still = true := allStill_of_data (data_row a)
        simp only [go_sem, ↓reduceIte, NB, NA, NL, ND, NE, ID, IT, BT, BF, reduceCtorEq, ha by', h3, bounds, boundV, hr1, hr2, hm, hln, hst, allStill_rows (dataLL_map data_row _), underL_of_data (data_row a), underLL_of_data (dataLL_map data_run _), underLL_of_data (dataLL_map data_expr _), underLL_of_data (dataLL_map data_str _), underLL_of_data (dataLL_map data_int _), underLL_of_data (dataLL_map data_row _), underLL_of_data (dataLL_map data_shape _), underLL_of_data (dataLL_map data_hand _)]
        exact fin _ ho _ (by simp [encBlock, hbe, encExpr, encExprs_map', encRow])
    · skip
      have ho : ({ b with grid := b.grid ++ [[[97]]] : Block }).Ok := { hq with lenG := app_len hl4, grid := app_ok hq.grid ⟨by simp, by decide⟩ }
      have hm : ∀ l, l.map encRow ++ [encRow ([[97]])] = (l ++ [[[97]]]).map encRow := fun l => by simp
      simp only [encRow, encStr, List.map_cons, List.map_nil] at hm
      cases hoe : b.grid with
      | nil =>
        rw [hoe] at ho
        simp only [go_sem, ↓reduceIte, NB, NA, NL, ND, NE, ID, IT, BT, BF, ha by', h3, bounds, boundV, roomy_of, underLL_of_data (dataLL_map data_run _), underLL_of_data (dataLL_map data_expr _), underLL_of_data (dataLL_map data_str _), underLL_of_data (dataLL_map data_int _), underLL_of_data (dataLL_map data_shape _), underLL_of_data (dataLL_map data_hand _)]
        exact fin _ ho _ (by simp [encBlock, hbe, encExpr, encExprs_map', encRow, encStr])
      | cons a r =>
        rw [hoe] at ho hl4
        have hr1 : roomy (r.length + 1) 24 = true := roomy_of (by simp at hl4 ⊢; omega) (by decide)
        have hr2 : roomy (r.length + 1 + 1) 24 = true := roomy_of (by simp at hl4 ⊢; omega) (by decide)
        have hln : (encRow a).length = 1 := by first | rfl | exact len_expr a
        have hst : (encRow a).all AV.still = true := allStill_of_data (data_row a)
        simp only [go_sem, ↓reduceIte, NB, NA, NL, ND, NE, ID, IT, BT, BF, ha by', h3, bounds, boundV, hr1, hr2, hm, hln, hst, allStill_rows (dataLL_map data_row _), underL_of_data (data_row a), underLL_of_data (dataLL_map data_run _), underLL_of_data (dataLL_map data_expr _), underLL_of_data (dataLL_map data_str _), underLL_of_data (dataLL_map data_int _), underLL_of_data (dataLL_map data_row _), underLL_of_data (dataLL_map data_shape _), underLL_of_data (dataLL_map data_hand _)]
        exact fin _ ho _ (by simp [encBlock, hbe, encExpr, encExprs_map', encRow, encStr])
    · skip
      have ho : ({ b with grid := b.grid ++ [[[97], [50, 49, 32, 98, 121, 116, 101, 115, 32, 97, 114, 101, 32, 116, 111, 111, 32, 109, 117, 99, 104, 46]]] : Block }).Ok := { hq with lenG := app_len hl4, grid := app_ok hq.grid ⟨by simp, by decide⟩ }
      have hm : ∀ l, l.map encRow ++ [encRow ([[97], [50, 49, 32, 98, 121, 116, 101, 115, 32, 97, 114, 101, 32, 116, 111, 111, 32, 109, 117, 99, 104, 46]])] = (l ++ [[[97], [50, 49, 32, 98, 121, 116, 101, 115, 32, 97, 114, 101, 32, 116, 111, 111, 32, 109, 117, 99, 104, 46]]]).map encRow := fun l => by simp
      simp only [encRow, encStr, List.map_cons, List.map_nil] at hm
      cases hoe : b.grid with
      | nil =>
        rw [hoe] at ho
        simp only [go_sem, ↓reduceIte, NB, NA, NL, ND, NE, ID, IT, BT, BF, ha by', h3, bounds, boundV, roomy_of, underLL_of_data (dataLL_map data_run _), underLL_of_data (dataLL_map data_expr _), underLL_of_data (dataLL_map data_str _), underLL_of_data (dataLL_map data_int _), underLL_of_data (dataLL_map data_shape _), underLL_of_data (dataLL_map data_hand _)]
        exact fin _ ho _ (by simp [encBlock, hbe, encExpr, encExprs_map', encRow, encStr])
      | cons a r =>
        rw [hoe] at ho hl4
        have hr1 : roomy (r.length + 1) 24 = true := roomy_of (by simp at hl4 ⊢; omega) (by decide)
        have hr2 : roomy (r.length + 1 + 1) 24 = true := roomy_of (by simp at hl4 ⊢; omega) (by decide)
        have hln : (encRow a).length = 1 := by first | rfl | exact len_expr a
        have hst : (encRow a).all AV.still = true := allStill_of_data (data_row a)
        simp only [go_sem, ↓reduceIte, NB, NA, NL, ND, NE, ID, IT, BT, BF, ha by', h3, bounds, boundV, hr1, hr2, hm, hln, hst, allStill_rows (dataLL_map data_row _), underL_of_data (data_row a), underLL_of_data (dataLL_map data_run _), underLL_of_data (dataLL_map data_expr _), underLL_of_data (dataLL_map data_str _), underLL_of_data (dataLL_map data_int _), underLL_of_data (dataLL_map data_row _), underLL_of_data (dataLL_map data_shape _), underLL_of_data (dataLL_map data_hand _)]
        exact fin _ ho _ (by simp [encBlock, hbe, encExpr, encExprs_map', encRow, encStr])
  simp only [go_sem, NB]
  refine branch_intro (fun hb => ?_) (fun hb => ?_)
  · obtain ⟨t, htm, htab⟩ := tabI [0, 1, 1000, 1001] k1 k2
    simp only [List.map, encInt] at htab
    have htl : IntOk t := by
      have : ∀ s ∈ ([0, 1, 1000, 1001] : List Int), IntOk s := by decide
      exact this t htm
    simp only [go_sem, ↓reduceIte, NB, NA, NL, ND, NE, ha by', k1, htab, underLL_of_data (dataLL_map data_run _), underLL_of_data (dataLL_map data_expr _), underLL_of_data (dataLL_map data_str _), underLL_of_data (dataLL_map data_int _), underLL_of_data (dataLL_map data_row _), underLL_of_data (dataLL_map data_shape _), underLL_of_data (dataLL_map data_hand _)]
    exact fin { b with w := t } { hq with w := htl } _ (by simp [encBlock, hbe, encExpr, encExprs_map'])
  simp only [go_sem, NB]
  refine branch_intro (fun hb => ?_) (fun hb => ?_)
  · skip
    have ho : ({ b with hands := b.hands ++ [[[Note.mk (around by' 52 - 2) 0 0]]] : Block }).Ok := { hq with lenH := app_len hl6, hands := app_ok hq.hands ⟨by simp, fun l hl => by
      have : l = [Note.mk (around by' 52 - 2) 0 0] := by simpa using hl
      subst this
      exact ⟨by simp, fun m hm => by
        have : m = Note.mk (around by' 52 - 2) 0 0 := by simpa using hm
        subst this
        exact ⟨h52.2, zero_ok, zero_ok⟩⟩⟩ }
    have hm : ∀ l, l.map encHand ++ [encHand ([[Note.mk (around by' 52 - 2) 0 0]])] = (l ++ [[[Note.mk (around by' 52 - 2) 0 0]]]).map encHand := fun l => by simp
    simp only [encHand, encBar, encNote, List.map_cons, List.map_nil] at hm
    cases hoe : b.hands with
    | nil =>
      rw [hoe] at ho
      simp only [go_sem, ↓reduceIte, NB, NA, NL, ND, NE, BT, ha by', h52.1, roomy_of, underLL_of_data (dataLL_map data_run _), underLL_of_data (dataLL_map data_expr _), underLL_of_data (dataLL_map data_str _), underLL_of_data (dataLL_map data_int _), underLL_of_data (dataLL_map data_row _), underLL_of_data (dataLL_map data_shape _)]
      exact fin _ ho _ (by simp [encBlock, hbe, encExpr, encExprs_map', encHand, encBar, encNote])
    | cons a r =>
      rw [hoe] at ho hl6
      have hr1 : roomy (r.length + 1) 24 = true := roomy_of (by simp at hl6 ⊢; omega) (by decide)
      have hr2 : roomy (r.length + 1 + 1) 24 = true := roomy_of (by simp at hl6 ⊢; omega) (by decide)
      have hln : (encHand a).length = 1 := by first | rfl | exact len_expr a
      have hst : (encHand a).all AV.still = true := allStill_of_data (data_hand a)
      simp only [go_sem, ↓reduceIte, NB, NA, NL, ND, NE, BT, ha by', h52.1, hr1, hr2, hm, hln, hst, allStill_rows (dataLL_map data_hand _), underL_of_data (data_hand a), underLL_of_data (dataLL_map data_run _), underLL_of_data (dataLL_map data_expr _), underLL_of_data (dataLL_map data_str _), underLL_of_data (dataLL_map data_int _), underLL_of_data (dataLL_map data_row _), underLL_of_data (dataLL_map data_shape _), underLL_of_data (dataLL_map data_hand _)]
      exact fin _ ho _ (by simp [encBlock, hbe, encExpr, encExprs_map', encHand, encBar, encNote])
  · obtain ⟨k1, k2⟩ := around_ok hby (m := 3) (by decide)
    obtain ⟨t, htm, htab⟩ := tabS [[], [120], [9]] k1 k2
    simp only [List.map, encStr] at htab
    have htl : TextOk t := by
      have : ∀ s ∈ ([[], [120], [9]] : List Str), TextOk s := by decide
      exact this t htm
    have ho : ({ b with lines := b.lines ++ [t] : Block }).Ok := { hq with lenL := app_len hl7, lines := app_ok hq.lines htl }
    have hm : ∀ l, l.map encStr ++ [encStr (t)] = (l ++ [t]).map encStr := fun l => by simp
    simp only [encStr] at hm
    cases hoe : b.lines with
    | nil =>
      rw [hoe] at ho
      simp only [go_sem, ↓reduceIte, NB, NA, NL, ND, NE, BT, ha by', k1, htab, roomy_of, underLL_of_data (dataLL_map data_run _), underLL_of_data (dataLL_map data_expr _), underLL_of_data (dataLL_map data_int _), underLL_of_data (dataLL_map data_row _), underLL_of_data (dataLL_map data_shape _), underLL_of_data (dataLL_map data_hand _)]
      exact fin _ ho _ (by simp [encBlock, hbe, encExpr, encExprs_map', encStr])
    | cons a r =>
      rw [hoe] at ho hl7
      have hr1 : roomy (r.length + 1) 16 = true := roomy_of (by simp at hl7 ⊢; omega) (by decide)
      have hr2 : roomy (r.length + 1 + 1) 16 = true := roomy_of (by simp at hl7 ⊢; omega) (by decide)
      have hln : (encStr a).length = 1 := by first | rfl | exact len_expr a
      have hst : (encStr a).all AV.still = true := allStill_of_data (data_str a)
      simp only [go_sem, ↓reduceIte, NB, NA, NL, NE, BT, ha by', k1, htab, hr1, hr2, hm, hln, hst, allStill_rows (dataLL_map data_str _), underL_of_data (data_str a), underLL_of_data (dataLL_map data_run _), underLL_of_data (dataLL_map data_expr _), underLL_of_data (dataLL_map data_str _), underLL_of_data (dataLL_map data_int _), underLL_of_data (dataLL_map data_row _), underLL_of_data (dataLL_map data_shape _), underLL_of_data (dataLL_map data_hand _)]
      exact fin _ ho _ (by simp [encBlock, hbe, encExpr, encExprs_map', encStr])
end Go.Proofs.AM
end
