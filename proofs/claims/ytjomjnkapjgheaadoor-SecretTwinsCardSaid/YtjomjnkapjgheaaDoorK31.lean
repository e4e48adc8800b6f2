/- Part 31 of the proof that stands in the last text of this folder (lemmas; no statement of its own). -/
import Derived.Test.YtjomjnkapjgheaaDoorK09
import Derived.Test.YtjomjnkapjgheaaDoorK30
section
open Nat renaming reduceBEq → NB, reduceAdd → NA, reduceSub → NS, reduceMul → NM, reduceLT → NL, reduceLeDiff → ND, reduceEqDiff → NE
open Int renaming reduceLT → IL, reduceLE → ID, reduceToNat → IT, reduceEq → IE, reduceBEq → IB, reduceBNe → IN, reduceAdd → IA, reduceSub → IS, reduceNeg → IM
open Bool renaming not_true → BT, not_false → BF
set_option linter.unusedVariables false
set_option maxRecDepth 8000
namespace Go.Proofs.AM
open Go
abbrev dactylref01_SameTexts_d0 (g : String → Nat) : List AOper := [⟨some 17, .mov (.tmp 0), none, []⟩,⟨some 18, .mov (.tmp 5), none, []⟩,⟨some 19, .iaV (.tmp 17) (.tmp 18) 1, none, [0, 1]⟩,⟨some 20, .load 1 false (.tmp 19), none, [2, 0, 1]⟩,⟨some 21, .mov (.tmp 1), none, []⟩,⟨some 22, .mov (.tmp 5), none, []⟩,⟨some 23, .iaV (.tmp 21) (.tmp 22) 1, none, [4, 5]⟩,⟨some 24, .load 1 false (.tmp 23), none, [6, 4, 5]⟩,⟨some 25, .bin .neq .no (.tmp 20) (.tmp 24), none, [3, 2, 0, 1, 7, 6, 4, 5]⟩]
abbrev dactylref01_SameTexts_k0 : List Nat := []
abbrev dactylref01_SameTexts_l0 (g : String → Nat) : ACode := .seq (.seq (.region false [⟨some 11, .mov (.tmp 5), none, []⟩,⟨some 12, .mov (.tmp 0), none, []⟩,⟨some 13, .lenV (.tmp 12), none, [1]⟩,⟨some 14, .bin .lss .no (.tmp 11) (.tmp 13), none, [0, 2, 1]⟩]) <| .cond (.tmp 14) (.skip) (.exit 0)) <| .seq (.block 1 (.seq (.region true (dactylref01_SameTexts_d0 g)) <| .cond (.tmp 25) (.seq (.region false [⟨some 4, .mov (.const (.bool false)), none, []⟩]) <| .ret) (.skip))) <| .region false [⟨some 15, .mov (.tmp 5), none, []⟩,⟨some 16, .bin .add .no (.tmp 15) (.const (.int .i64 1)), none, [0]⟩,⟨some 5, .mov (.tmp 16), none, [1, 0]⟩]
abbrev dactylref01_SameTexts_w0 : List Nat := [11, 12, 13, 14, 17, 18, 19, 20, 21, 22, 23, 24, 25, 4, 15, 16, 5]
def dactylref01_SameTexts (g : String → Nat) : AFn := ⟨26, [], [.tmp 4],
  .seq (.region false [⟨some 4, .mov (.const (.bool false)), none, []⟩]) <|
  .seq (.seq (.region false [⟨some 6, .mov (.tmp 0), none, []⟩,
    ⟨some 7, .lenV (.tmp 6), none, [0]⟩,
    ⟨some 8, .mov (.tmp 1), none, []⟩,
    ⟨some 9, .lenV (.tmp 8), none, [2]⟩,
    ⟨some 10, .bin .neq .no (.tmp 7) (.tmp 9), none, [1, 0, 3, 2]⟩]) <|
  .cond (.tmp 10) (.seq (.region false [⟨some 4, .mov (.const (.bool false)), none, []⟩]) <|
    .ret)
    (.skip)) <|
  .seq (.seq (.region false [⟨some 5, .mov (.const (.int .i64 0)), none, []⟩]) <|
  .block 0 (.loop (dactylref01_SameTexts_l0 g))) <|
  .seq (.region false [⟨some 4, .mov (.const (.bool true)), none, []⟩]) <|
  .ret⟩
def dactyllaw31_lives (g : String → Nat) : AFn := ⟨97, [1, 2, 3, 4, 5, 6], [.tmp 0],
  .seq (.region false [⟨some 0, .mov (.const (.bool false)), none, []⟩]) <|
  .seq (.region false [⟨some 8, .bsl 1 [(.str [])] 4 [(0, (.const (.str [97]))), (1, (.const (.str [98]))), (2, (.const (.str [99]))), (3, (.const (.str [100])))], none, []⟩,
    ⟨some 9, .bsl 1 [(.str [])] 2 [(0, (.const (.str [120]))), (1, (.const (.str [])))], none, []⟩,
    ⟨some 10, .build [(.int .i64 0), (.sl true []), (.sl true []), (.sl true []), (.str []), (.int .i64 0), (.sl true [])] [(2, 1, (.tmp 8)), (4, 1, (.const (.str [50]))), (5, 1, (.const (.int .i64 3))), (6, 1, (.tmp 9))], none, [0, 1]⟩,
    ⟨some 1, .alloc [(.int .i64 0), (.sl true []), (.sl true []), (.sl true []), (.str []), (.int .i64 0), (.sl true [])], none, []⟩,
    ⟨none, .store 7 (.tmp 1) (.tmp 10), none, [2, 0, 1, 3]⟩]) <|
  .seq (.region false [⟨some 11, .load 7 true (.tmp 1), none, []⟩,
    ⟨some 12, .bsl 7 [(.int .i64 0), (.sl false []), (.sl false []), (.sl false []), (.str []), (.int .i64 0), (.sl false [])] 1 [(0, (.tmp 11))], none, [0]⟩,
    ⟨some 13, .build [(.str []), (.sl true []), (.sl true []), (.sl true [])] [(0, 1, (.const (.str [97]))), (3, 1, (.tmp 12))], none, [1, 0]⟩,
    ⟨some 14, .bsl 4 [(.str []), (.sl false []), (.sl false []), (.sl false [])] 1 [(0, (.tmp 13))], none, [2, 1, 0]⟩,
    ⟨some 15, .build [(.str []), (.sl true [])] [(1, 1, (.tmp 14))], none, [3, 2, 1, 0]⟩,
    ⟨some 2, .alloc [(.str []), (.sl true [])], none, []⟩,
    ⟨none, .store 2 (.tmp 2) (.tmp 15), none, [4, 3, 2, 1, 0, 5]⟩]) <|
  .seq (.region false [⟨some 16, .load 2 true (.tmp 2), none, []⟩,
    ⟨some 17, .callv (.const (.fn (g "dactyl/secret.Twin") [] [])) [(.tmp 16), (.const (.int .i64 12))], none, [0]⟩,
    ⟨some 3, .alloc [(.str []), (.sl true [])], none, []⟩,
    ⟨none, .store 2 (.tmp 3) (.tmp 17), none, [1, 0, 2]⟩]) <|
  .seq (.region false [⟨some 18, .load 2 true (.tmp 2), none, []⟩,
    ⟨some 19, .callv (.const (.fn (g "dactyl/secret.Twin") [] [])) [(.tmp 18), (.const (.int .i64 (-1)))], none, [0]⟩,
    ⟨some 4, .alloc [(.str []), (.sl true [])], none, []⟩,
    ⟨none, .store 2 (.tmp 4) (.tmp 19), none, [1, 0, 2]⟩]) <|
  .seq (.seq (.region false [⟨some 20, .load 2 true (.tmp 2), none, []⟩,
    ⟨some 21, .load 2 true (.tmp 3), none, []⟩,
    ⟨some 22, .callv (.const (.fn (g "dactyl/secret.Only") [] [])) [(.tmp 20), (.tmp 21)], none, [0, 1]⟩,
    ⟨some 23, .un .not (.tmp 22), none, [2, 0, 1]⟩,
    ⟨some 24, .mov (.tmp 23), none, [3, 2, 0, 1]⟩,
    ⟨some 25, .fa 1 (.tmp 3), some (some 24, false), [4, 3, 2, 0, 1]⟩,
    ⟨some 26, .load 1 false (.tmp 25), some (some 24, false), [5, 4, 3, 2, 0, 1]⟩,
    ⟨some 27, .lenV (.tmp 26), some (some 24, false), [6, 5, 4, 3, 2, 0, 1]⟩,
    ⟨some 28, .bin .neq .no (.tmp 27) (.const (.int .i64 1)), some (some 24, false), [7, 6, 5, 4, 3, 2, 0, 1]⟩,
    ⟨some 29, .pick (.tmp 24) (.const (.bool true)) (.tmp 28), none, [8, 7, 6, 5, 4, 3, 2, 0, 1]⟩,
    ⟨some 30, .mov (.tmp 29), none, [9, 8, 7, 6, 5, 4, 3, 2, 0, 1]⟩,
    ⟨some 31, .fa 1 (.tmp 4), some (some 30, false), [10, 9, 8, 7, 6, 5, 4, 3, 2, 0, 1]⟩,
    ⟨some 32, .load 1 false (.tmp 31), some (some 30, false), [11, 10, 9, 8, 7, 6, 5, 4, 3, 2, 0, 1]⟩,
    ⟨some 33, .lenV (.tmp 32), some (some 30, false), [12, 11, 10, 9, 8, 7, 6, 5, 4, 3, 2, 0, 1]⟩,
    ⟨some 34, .bin .neq .no (.tmp 33) (.const (.int .i64 1)), some (some 30, false), [13, 12, 11, 10, 9, 8, 7, 6, 5, 4, 3, 2, 0, 1]⟩,
    ⟨some 35, .pick (.tmp 30) (.const (.bool true)) (.tmp 34), none, [14, 13, 12, 11, 10, 9, 8, 7, 6, 5, 4, 3, 2, 0, 1]⟩]) <|
  .cond (.tmp 35) (.seq (.region false [⟨some 0, .mov (.const (.bool false)), none, []⟩]) <|
    .ret)
    (.skip)) <|
  .seq (.seq (.region false [⟨some 36, .fa 1 (.tmp 3), none, []⟩,
    ⟨some 37, .load 1 false (.tmp 36), none, [0]⟩,
    ⟨some 38, .iaV (.tmp 37) (.const (.int .i64 0)) 4, none, [1, 0]⟩,
    ⟨some 39, .fa 3 (.tmp 38), none, [2, 1, 0]⟩,
    ⟨some 40, .load 1 false (.tmp 39), none, [3, 2, 1, 0]⟩,
    ⟨some 41, .lenV (.tmp 40), none, [4, 3, 2, 1, 0]⟩,
    ⟨some 42, .bin .neq .no (.tmp 41) (.const (.int .i64 1)), none, [5, 4, 3, 2, 1, 0]⟩,
    ⟨some 43, .mov (.tmp 42), none, [6, 5, 4, 3, 2, 1, 0]⟩,
    ⟨some 44, .fa 1 (.tmp 4), some (some 43, false), [7, 6, 5, 4, 3, 2, 1, 0]⟩,
    ⟨some 45, .load 1 false (.tmp 44), some (some 43, false), [8, 7, 6, 5, 4, 3, 2, 1, 0]⟩,
    ⟨some 46, .iaV (.tmp 45) (.const (.int .i64 0)) 4, some (some 43, false), [9, 8, 7, 6, 5, 4, 3, 2, 1, 0]⟩,
    ⟨some 47, .fa 3 (.tmp 46), some (some 43, false), [10, 9, 8, 7, 6, 5, 4, 3, 2, 1, 0]⟩,
    ⟨some 48, .load 1 false (.tmp 47), some (some 43, false), [11, 10, 9, 8, 7, 6, 5, 4, 3, 2, 1, 0]⟩,
    ⟨some 49, .lenV (.tmp 48), some (some 43, false), [12, 11, 10, 9, 8, 7, 6, 5, 4, 3, 2, 1, 0]⟩,
    ⟨some 50, .bin .neq .no (.tmp 49) (.const (.int .i64 1)), some (some 43, false), [13, 12, 11, 10, 9, 8, 7, 6, 5, 4, 3, 2, 1, 0]⟩,
    ⟨some 51, .pick (.tmp 43) (.const (.bool true)) (.tmp 50), none, [14, 13, 12, 11, 10, 9, 8, 7, 6, 5, 4, 3, 2, 1, 0]⟩]) <|
  .cond (.tmp 51) (.seq (.region false [⟨some 0, .mov (.const (.bool false)), none, []⟩]) <|
    .ret)
    (.skip)) <|
  .seq (.region false [⟨some 52, .fa 1 (.tmp 3), none, []⟩,
    ⟨some 53, .load 1 false (.tmp 52), none, [0]⟩,
    ⟨some 54, .iaV (.tmp 53) (.const (.int .i64 0)) 4, none, [1, 0]⟩,
    ⟨some 55, .fa 3 (.tmp 54), none, [2, 1, 0]⟩,
    ⟨some 56, .load 1 false (.tmp 55), none, [3, 2, 1, 0]⟩,
    ⟨some 57, .iaV (.tmp 56) (.const (.int .i64 0)) 7, none, [4, 3, 2, 1, 0]⟩,
    ⟨some 58, .load 7 true (.tmp 57), none, [5, 4, 3, 2, 1, 0]⟩,
    ⟨some 5, .alloc [(.int .i64 0), (.sl true []), (.sl true []), (.sl true []), (.str []), (.int .i64 0), (.sl true [])], none, []⟩,
    ⟨none, .store 7 (.tmp 5) (.tmp 58), none, [6, 5, 4, 3, 2, 1, 0, 7]⟩]) <|
  .seq (.region false [⟨some 59, .fa 1 (.tmp 4), none, []⟩,
    ⟨some 60, .load 1 false (.tmp 59), none, [0]⟩,
    ⟨some 61, .iaV (.tmp 60) (.const (.int .i64 0)) 4, none, [1, 0]⟩,
    ⟨some 62, .fa 3 (.tmp 61), none, [2, 1, 0]⟩,
    ⟨some 63, .load 1 false (.tmp 62), none, [3, 2, 1, 0]⟩,
    ⟨some 64, .iaV (.tmp 63) (.const (.int .i64 0)) 7, none, [4, 3, 2, 1, 0]⟩,
    ⟨some 65, .load 7 true (.tmp 64), none, [5, 4, 3, 2, 1, 0]⟩,
    ⟨some 6, .alloc [(.int .i64 0), (.sl true []), (.sl true []), (.sl true []), (.str []), (.int .i64 0), (.sl true [])], none, []⟩,
    ⟨none, .store 7 (.tmp 6) (.tmp 65), none, [6, 5, 4, 3, 2, 1, 0, 7]⟩]) <|
  .seq (.region false [⟨some 66, .fa 4 (.tmp 5), none, []⟩,
    ⟨some 67, .load 1 false (.tmp 66), none, [0]⟩,
    ⟨some 68, .bin .eql .no (.tmp 67) (.const (.str [48])), none, [1, 0]⟩,
    ⟨some 69, .mov (.tmp 68), none, [2, 1, 0]⟩,
    ⟨some 70, .fa 5 (.tmp 5), some (some 69, true), [3, 2, 1, 0]⟩,
    ⟨some 71, .load 1 false (.tmp 70), some (some 69, true), [4, 3, 2, 1, 0]⟩,
    ⟨some 72, .bin .eql .no (.tmp 71) (.const (.int .i64 16)), some (some 69, true), [5, 4, 3, 2, 1, 0]⟩,
    ⟨some 73, .pick (.tmp 69) (.tmp 72) (.const (.bool false)), none, [6, 5, 4, 3, 2, 1, 0]⟩,
    ⟨some 74, .mov (.tmp 73), none, [7, 6, 5, 4, 3, 2, 1, 0]⟩,
    ⟨some 75, .fa 6 (.tmp 5), some (some 74, true), [8, 7, 6, 5, 4, 3, 2, 1, 0]⟩,
    ⟨some 76, .load 1 false (.tmp 75), some (some 74, true), [9, 8, 7, 6, 5, 4, 3, 2, 1, 0]⟩,
    ⟨some 77, .bsl 1 [(.str [])] 2 [(0, (.const (.str [114, 49, 50]))), (1, (.const (.str [114, 49, 51])))], some (some 74, true), [8, 7, 6, 5, 4, 3, 2, 1, 0]⟩,
    ⟨some 78, .callv (.const (.fn (g "dactyl/dactylref01.SameTexts") [] [])) [(.tmp 76), (.tmp 77)], some (some 74, true), [10, 9, 11, 8, 7, 6, 5, 4, 3, 2, 1, 0]⟩,
    ⟨some 79, .pick (.tmp 74) (.tmp 78) (.const (.bool false)), none, [12, 10, 9, 11, 8, 7, 6, 5, 4, 3, 2, 1, 0]⟩,
    ⟨some 7, .mov (.tmp 79), none, [13, 12, 10, 9, 11, 8, 7, 6, 5, 4, 3, 2, 1, 0]⟩]) <|
  .seq (.region false [⟨some 80, .mov (.tmp 7), none, []⟩,
    ⟨some 81, .mov (.tmp 80), none, [0]⟩,
    ⟨some 82, .fa 4 (.tmp 6), some (some 81, true), [1, 0]⟩,
    ⟨some 83, .load 1 false (.tmp 82), some (some 81, true), [2, 1, 0]⟩,
    ⟨some 84, .bin .eql .no (.tmp 83) (.const (.str [51])), some (some 81, true), [3, 2, 1, 0]⟩,
    ⟨some 85, .pick (.tmp 81) (.tmp 84) (.const (.bool false)), none, [4, 3, 2, 1, 0]⟩,
    ⟨some 86, .mov (.tmp 85), none, [5, 4, 3, 2, 1, 0]⟩,
    ⟨some 87, .fa 5 (.tmp 6), some (some 86, true), [6, 5, 4, 3, 2, 1, 0]⟩,
    ⟨some 88, .load 1 false (.tmp 87), some (some 86, true), [7, 6, 5, 4, 3, 2, 1, 0]⟩,
    ⟨some 89, .bin .eql .no (.tmp 88) (.const (.int .i64 2)), some (some 86, true), [8, 7, 6, 5, 4, 3, 2, 1, 0]⟩,
    ⟨some 90, .pick (.tmp 86) (.tmp 89) (.const (.bool false)), none, [9, 8, 7, 6, 5, 4, 3, 2, 1, 0]⟩,
    ⟨some 91, .mov (.tmp 90), none, [10, 9, 8, 7, 6, 5, 4, 3, 2, 1, 0]⟩,
    ⟨some 92, .fa 6 (.tmp 6), some (some 91, true), [11, 10, 9, 8, 7, 6, 5, 4, 3, 2, 1, 0]⟩,
    ⟨some 93, .load 1 false (.tmp 92), some (some 91, true), [12, 11, 10, 9, 8, 7, 6, 5, 4, 3, 2, 1, 0]⟩,
    ⟨some 94, .bsl 1 [(.str [])] 2 [(0, (.const (.str [114, 57, 57, 57]))), (1, (.const (.str [114, 48])))], some (some 91, true), [11, 10, 9, 8, 7, 6, 5, 4, 3, 2, 1, 0]⟩,
    ⟨some 95, .callv (.const (.fn (g "dactyl/dactylref01.SameTexts") [] [])) [(.tmp 93), (.tmp 94)], some (some 91, true), [13, 12, 14, 11, 10, 9, 8, 7, 6, 5, 4, 3, 2, 1, 0]⟩,
    ⟨some 96, .pick (.tmp 91) (.tmp 95) (.const (.bool false)), none, [15, 13, 12, 14, 11, 10, 9, 8, 7, 6, 5, 4, 3, 2, 1, 0]⟩,
    ⟨some 0, .mov (.tmp 96), none, [16, 15, 13, 12, 14, 11, 10, 9, 8, 7, 6, 5, 4, 3, 2, 1, 0]⟩]) <|
  .ret⟩
theorem sameTexts_spec {A : AProg} {g : String → Nat} (h : Has A g "dactyl/dactylref01.SameTexts" (dactylref01_SameTexts g)) (x y : List Str) (hx : x.length < 4611686018427387904) (H : List AObj) :
    callI A (g "dactyl/dactylref01.SameTexts") [.sl false (x.map encStr), .sl false (y.map encStr)] H = some (.bool (eqv x y), H, []) := by
  refine h.call (by simp [dactylref01_SameTexts]) (by kernel_rfl) ?_
  simp only [dactylref01_SameTexts]
  simp only [go_sem, ↓bnd_eq, NB]
  refine branch_intro (fun hb => ?_) (fun hb => ?_)
  · have hne : x.length ≠ y.length := by intro h; simp [h] at hb
    simp only [go_sem, ↓bnd_eq, eqv_false (show x ≠ y from fun h => hne (by rw [h]))]
  · have hxy : x.length = y.length := by
      have : ¬ ((x.length : Int) ≠ y.length) := by simpa using hb
      omega
    simp only [go_sem, ↓bnd_eq]
    refine wl_for (W := dactylref01_SameTexts_w0) (fun i ρ1 H1 wr => wr = [] ∧ ρ1 5 = vi i ∧ H1 = H ∧ eqL eqv x y = eqL eqv (x.drop i) (y.drop i)) x.length (by kernel_rfl) (by rfl) ⟨rfl, by simp only [go_sem], by simp only [go_sem], rfl⟩ ?_
    rintro i ρ1 H1 wr1 hil ⟨rfl, h5, rfl, hi⟩ hf
    have f0 : ρ1 0 = .sl false (x.map encStr) := by rw [hf 0 (by decide)]; simp only [go_sem, NB]
    have f1 : ρ1 1 = .sl false (y.map encStr) := by rw [hf 1 (by decide)]; simp only [go_sem, NB]
    simp only [go_sem, ↓bnd_eq, NB, f0, h5]
    refine branch_intro (fun hb => ?_) (fun hb => ?_)
    · have hlt : i < x.length := by simpa using hb
      have hlty : i < y.length := by omega
      have hbn : ∀ a b : Str, (a != b) = !(eqv a b) := fun a b => by rw [bne, beqS]
      simp only [go_sem]
      refine wc_draw' (keep := dactylref01_SameTexts_k0) (by rfl) (by rfl) ?_
      simp only [go_sem, ↓bnd_eq, ↓reduceIte, NB, NA, dactylref01_SameTexts_k0, f0, f1, h5, hlt, getElem?_map_of hlt, getElem?_map_of hlty, encStr, hbn]
      refine branch_intro (fun hb => ?_) (fun hb => ?_)
      · have he : eqv x[i] y[i] = false := by simpa using hb
        rw [eqL_drop hlt hlty, he, Bool.false_and, eqL_eqv] at hi
        simp only [go_sem, ↓bnd_eq, hi]
      · have he : eqv x[i] y[i] = true := by simpa using hb
        simp only [go_sem, ↓bnd_eq, NB, h5]
        rw [wrap_succ (by omega)]
        exact ⟨hlt, rfl, by rw [hi, eqL_drop hlt hlty, he, Bool.true_and]⟩
    · have hlt : i = x.length := by
        have : ¬ i < x.length := by simpa using hb
        omega
      subst hlt
      rw [List.drop_eq_nil_of_le (Nat.le_refl _), List.drop_eq_nil_of_le (by omega), eqL_eqv] at hi
      simp only [go_sem, ↓bnd_eq, hi, eqL]
abbrev q0 : Question := ⟨0, [], [[97], [98], [99], [100]], [], [50], 3, [[120], []]⟩
abbrev x0 : Exam := ⟨[], [⟨[97], [], [], [q0]⟩]⟩
abbrev xa : Exam := ⟨[], [⟨[97], [], [], [{ q0 with points := 16, key := [48], reasons := [[114, 49, 50], [114, 49, 51]] }]⟩]⟩
abbrev xb : Exam := ⟨[], [⟨[97], [], [], [{ q0 with points := 2, key := [51], reasons := [[114, 57, 57, 57], [114, 48]] }]⟩]⟩
theorem dec_d : dec 12 = [49, 50] ∧ dec 13 = [49, 51] ∧ dec 0 = [48] ∧ dec 3 = [51] ∧ dec 999 = [57, 57, 57] := by
  refine ⟨?_, ?_, ?_, ?_, ?_⟩ <;> simp [dec]
theorem twin_a : twinExam 12 x0 = xa := by
  have h1 : restN 12 ((max 1 4 : Nat) : Int) = 0 := by decide
  have h2 : restN (IntKind.i64.wrap (12 + ((0 : Nat) : Int))) 1000 = 12 := by decide
  have h3 : restN (IntKind.i64.wrap (12 + ((1 : Nat) : Int))) 1000 = 13 := by decide
  have h4 : twinPoints 12 3 = 16 := by decide
  obtain ⟨d1, d2, d3, d4, d5⟩ := dec_d
  simp only [twinExam, xa, q0, List.map_cons, List.map_nil, twinItem, twinQ, twinKey, List.length_cons, List.length_nil, Nat.zero_add, NA, h1, h4, d3, if_true, List.mapIdx_cons, List.mapIdx_nil, twinReason, h2, h3, d1, d2]
theorem twin_b : twinExam (-1) x0 = xb := by
  have h1 : restN (-1) ((max 1 4 : Nat) : Int) = 3 := by decide
  have h2 : restN (IntKind.i64.wrap (-1 + ((0 : Nat) : Int))) 1000 = 999 := by decide
  have h3 : restN (IntKind.i64.wrap (-1 + ((1 : Nat) : Int))) 1000 = 0 := by decide
  have h4 : twinPoints (-1) 3 = 2 := by decide
  obtain ⟨d1, d2, d3, d4, d5⟩ := dec_d
  simp only [twinExam, xb, q0, List.map_cons, List.map_nil, twinItem, twinQ, twinKey, List.length_cons, List.length_nil, Nat.zero_add, NA, h1, h4, d4, if_true, List.mapIdx_cons, List.mapIdx_nil, twinReason, h2, h3, d3, d5]
theorem x0_ok : x0.Ok := by
  have small : ∀ n : Int, 0 ≤ n → n ≤ 100 → IntOk n := fun n h1 h2 => ⟨by omega, by omega⟩
  refine ⟨by decide, by decide, fun i hi => ?_⟩
  have : i = ⟨[97], [], [], [q0]⟩ := by simpa using hi
  subst this
  refine ⟨by decide, by decide, by simp, by decide, by simp, by decide, fun q hq => ?_⟩
  have : q = q0 := by simpa using hq
  subst this
  exact ⟨small 0 (by decide) (by decide), by decide, by simp, by decide, by decide, by decide, by simp, by decide, small 3 (by decide) (by decide), by decide, by decide⟩
set_option maxHeartbeats 3200000 in
theorem lives_spec {A : AProg} {g : String → Nat} (h : Has A g "dactyl/dactyllaw31.lives" (dactyllaw31_lives g)) (hs : Has A g "dactyl/dactylref01.SameTexts" (dactylref01_SameTexts g))
    (ht : ∀ {x : Exam}, x.Ok → ∀ n H, callI A (g "dactyl/secret.Twin") [encExam x, vi n] H = some (encExam (twinExam n x), H, []))
    (ho : ∀ {a b : Exam}, a.Ok → b.Ok → ∀ H, callI A (g "dactyl/secret.Only") [encExam a, encExam b] H = some (.bool (eqv (eraseExam a) (eraseExam b)), H, [])) (H : List AObj) :
    callI A (g "dactyl/dactyllaw31.lives") [] H = some (.bool true, H, []) := by
  refine h.call (by simp [dactyllaw31_lives]) (by kernel_rfl) ?_
  have t1 := ht x0_ok 12
  have t2 := ht x0_ok (-1)
  have t3 := ho x0_ok (twinExam_ok 12 x0_ok)
  rw [erase_twin, eqv_self] at t3
  rw [twin_a] at t1 t3
  rw [twin_b] at t2
  have s1 := fun H => sameTexts_spec hs [[114, 49, 50], [114, 49, 51]] [[114, 49, 50], [114, 49, 51]] (by decide) H
  have s2 := fun H => sameTexts_spec hs [[114, 57, 57, 57], [114, 48]] [[114, 57, 57, 57], [114, 48]] (by decide) H
  rw [eqv_self] at s1 s2
  simp only [encExam, encItem, encQ, encStr, List.map_cons, List.map_nil] at t1 t2 t3 s1 s2
  simp only [dactyllaw31_lives]
  simp only [go_sem, ↓bnd_eq, ↓reduceIte, NB, NA, NL, ND, NE, ID, IT, IN, IM, BT, t1, t2, t3, s1, s2]
end Go.Proofs.AM
end
section
namespace Go.Proofs.AM
open Go
section
variable {P : Program} {glob : Nat → Option (List AV)} {A : AProg}
structure Good (P : Program) (glob : Nat → Option (List AV)) (A : AProg) : Prop where
  mixed : P.follows .mixedOrders = true
  fn : ∀ f fn, A.fn f = some fn → ∃ F body frz, P.funcs[f]? = some F ∧ (F.name == "runtime.NumGoroutine") = false ∧ F.body = some body ∧
    fn.body = cCode P glob frz body ∧ fn.ntmps = F.ntmps ∧ cRess P F.results.toList = some fn.results
  prim : ∀ f p, A.prim f = some p → CallOk P glob fun f' args H => if f' = f then (p args).map (·, H, []) else none
def AExit.real : AExit → Exit
  | .normal => .normal
  | .exit id => .exit id
  | .ret => .ret
theorem Reach.join {base : Nat} {g g1 : G} {H : List AObj} {w : World} {d : List Deferred} {s1 s2 : ASt} {a1 a2 : Act} {w1 w2 : World} {W : List Nat}
    (h1 : Step g H w g1 s1.H w1 W) (h2 : ∀ o ∈ W, o < base → o ∈ s1.wr) (h4 : a1.defers = d) (hwr : ∀ o ∈ s1.wr, o ∈ s2.wr)
    (h : Reach glob base g1 s1.H w1 a1.defers s2 a2 w2) : Reach glob base g H w d s2 a2 w2 := by
  obtain ⟨g2, W', i1, i2, i3, i4, i5⟩ := h
  refine ⟨g2, W ++ W', h1.trans i1, fun o ho hb => ?_, i3, by rw [i4, h4], i5⟩
  rcases List.mem_append.1 ho with ho | ho
  · exact hwr o (h2 o ho hb)
  · exact i2 o ho hb
theorem setCell_same {w : World} {b off : Nat} {x : Value} (h : w.cell? ⟨b, off, none⟩ = some x) : w.setCell ⟨b, off, none⟩ x = w := by
  have key : (w.heap.modify b fun
      | .cells c elem frozen => .cells (c.setIfInBounds off x) elem frozen
      | o => o) = w.heap := by
    apply Array.ext_getElem?
    intro i
    rw [Array.getElem?_modify]
    by_cases e : b = i
    · subst e
      rw [if_pos rfl]
      simp only [World.cell?] at h
      cases hb : w.heap[b]? with
      | none => rfl
      | some o =>
        rw [hb] at h
        cases o with
        | cells c elem fz =>
          simp at h
          have hlt := (Array.getElem?_eq_some_iff.1 h).1
          have hx := (Array.getElem?_eq_some_iff.1 h).2
          simp only [Option.map_some, Option.some.injEq, Obj.cells.injEq, and_self, and_true]
          apply Array.ext_getElem?
          intro j
          by_cases ej : off = j
          · subst ej; simp [hlt, hx]
          · simp [ej]
        | _ => rfl
    · rw [if_neg e]
  simp only [World.setCell, Option.isSome_none, Bool.false_eq_true, if_false]
  exact congrArg (fun h => { w with heap := h }) key
theorem setCells_same {w : World} {b : Nat} : ∀ (vs : List Value) (off : Nat), (∀ (j : Nat) v, vs[j]? = some v → w.cell? ⟨b, off + j, none⟩ = some v) → w.setCells b off vs = w
  | [], _, _ => rfl
  | v :: vs, off, h => by
    have h0 := h 0 v rfl
    simp only [Nat.add_zero] at h0
    simp only [World.setCells]
    rw [setCell_same h0]
    exact setCells_same vs (off + 1) fun j x hx => by
      have := h (j + 1) x (by simpa using hx)
      rwa [show off + (j + 1) = off + 1 + j by omega] at this
theorem frz_sound {c : Ctx} {w : World} {a : Act} : ∀ (ts : List (Nat × Nat)) (s s' : ASt), evFrz c s ts = some s' → ∀ (g : G), WF g s.H w → GlobOk glob g → SlotRel g s.ρ a.tmps → Reach glob c.base g s.H w a.defers s' a w
  | [], s, s', h, g, hw, hg, hs => by simp only [evFrz, Option.some.injEq] at h; subst h; exact .refl hw hs hg
  | (0, t) :: ts, s, s', h, g, hw, hg, hs => by
    unfold evFrz at h
    split at h
    · rename_i v H' l hf
      obtain ⟨g1, h1, h2⟩ := fix_sound hw hf (hs.2 t)
      have hs1 : SlotRel g1 (s.ρ.set t v) a.tmps := by
        refine ⟨by simpa using hs.1, fun t' => ?_⟩
        by_cases e : t = t'
        · subst e
          by_cases hlt : t < s.ρ.length
          · simpa [hlt] using h2
          · have : (s.ρ.set t v)[t]? = none := List.getElem?_eq_none (by simp; omega)
            rw [this]; exact .undef _
        · rw [getElem?_set_ne' _ _ e]
          exact (hs.2 t').mono h1.le
      have h3 := frz_sound ts _ s' h g1 h1.wf (hg.mono h1.le) hs1
      obtain ⟨g2, W, i1, i2, i3, i4, i5⟩ := h3
      refine ⟨g2, l ++ W, h1.trans i1, fun o ho hb => ?_, i3, i4, i5⟩
      rcases List.mem_append.1 ho with ho | ho
      · exact (evFrz_fr ts _ s' h).2.1 o ((addWr_spec _ _ _).2 o ho hb)
      · exact i2 o ho hb
    · cases h
  | (k + 1, t) :: ts, s, s', h, g, hw, hg, hs => by
    unfold evFrz at h
    split at h
    · exact frz_sound ts _ s' h g hw hg hs
    split at h
    · rename_i cs hr
      split at h
      · rename_i cs' H' l hf
        split at h
        · rename_i H2 l2 hst
          obtain ⟨b, off, vs, e, hlen, hl, hc⟩ := readCells_sound hw hr (hs.2 t)
          obtain ⟨g1, h1, h2⟩ := fix_sound hw hf (LRel.agg (vs := vs.toArray) (by simpa using hl))
          obtain ⟨ys, e1, hl1⟩ := h2.agg_list
          cases e1
          have hl1' : LRel g1 cs' vs := by simpa using hl1
          obtain ⟨b', off', e', _, _, h3⟩ := storeCells_sound h1.wf hst ((hs.2 t).mono h1.le) hl1'
          rw [e] at e'
          cases e'
          have hsame : w.setCells b off vs = w := setCells_same vs off fun j v hv => hc j v hv
          rw [hsame] at h3
          have h4 := frz_sound ts _ s' h g1 h3.wf (hg.mono h1.le) (hs.mono h1.le)
          obtain ⟨g2, W, i1, i2, i3, i4, i5⟩ := h4
          refine ⟨g2, (l ++ l2) ++ W, (h1.trans h3).trans i1, fun o ho hb => ?_, i3, i4, i5⟩
          rcases List.mem_append.1 ho with ho | ho
          · exact (evFrz_fr ts _ s' h).2.1 o ((addWr_spec _ _ _).2 o ho hb)
          · exact i2 o ho hb
        · cases h
      · cases h
    · cases h
theorem WF.more {g : G} {H : List AObj} {w : World} (h : WF g H w) (k : Nat) : Step g H w g (H ++ List.replicate k (.gone 0)) w [] := by
  have hat : ∀ o l x, Backed g (H ++ List.replicate k (.gone 0)) o l x → Backed g H o l x := fun o l x hb =>
    ⟨by rw [← List.getElem?_append_left (h.lt o l hb.loc)]; exact hb.at_, hb.alive, hb.loc, hb.st⟩
  refine ⟨G.le.refl g,⟨h.perm, fun o l hl => by have := h.lt o l hl; simp; omega, h.blk, fun o x l hx hl => ?_, fun o l x hb => h.obj o l x (hat o l x hb), fun o l x hb => h.priv o l x (hat o l x hb),
    fun o o' l l' x x' h1 h2 => h.inj o o' l l' x x' (hat _ _ _ h1) (hat _ _ _ h2), h.whole⟩, Frame.refl _ _ _, fun o ho _ => List.getElem?_append_left ho, by simp, fun _ l' hl => .inr ⟨l', hl, rfl⟩, fun _ _ _ => rfl⟩
  rw [List.getElem?_append_left (h.lt o l hl)] at hx
  exact h.st o x l hx hl
def CodeOk (P : Program) (glob : Nat → Option (List AV)) (A : AProg) (n : Nat) : Prop :=
  ∀ (c : Ctx) (frz : Nat → List (Nat × Nat)) (x : Code) (s : ASt) e s', evCode A n c (cCode P glob frz x) s = some (e, s') → ∀ (g : G) (a : Act) (w : World), WF g s.H w → GlobOk glob g → SlotRel g s.ρ a.tmps →
    ∀ Q : Exit → Act → World → Prop, (∀ a' w', Reach glob c.base g s.H w a.defers s' a' w' → Q e.real a' w') → x.wp P Q a w ∧ ∀ b, x = .loop b → Code.rounds P b Q n a w
theorem call_sound (A0 : Good P glob A) {n : Nat} (hcode : CodeOk P glob A n) : CallOk P glob (evCall A n) := by
  intro f args H av H' wr h g w xs hw hg hx
  rcases evCall_cases h with ⟨p, v1, hp, hv, hr⟩ | ⟨fn, s', e, r', hf, he, hee, hfin, hr⟩
  · cases hr
    exact A0.prim f p hp f args H av H [] (by simp [hv]) g w xs hw hg hx
  · obtain ⟨F, body, frz, e1, e2, e3, e4, e5, e6⟩ := A0.fn f fn hf
    refine ⟨⟨F, e1, e2, by simp [e3]⟩, calls_of_wp e1 e3 ?_⟩
    rw [e4] at he
    have hst := hw.more fn.sites.length
    refine (hcode _ frz body _ e s' he g _ w hst.wf hg ?_ _ fun a' w' hreach => ?_).1
    ·
      have hlen := hx.1
      refine ⟨by simp [enterSt, hlen, e5], fun t => ?_⟩
      simp only [enterSt]
      by_cases ht : t < args.length
      · rw [List.getElem?_append_left ht, List.getElem?_eq_getElem ht]
        have h1 : (xs.toArray ++ Array.replicate (F.ntmps - xs.toArray.size) Go.undef).getD t Go.undef = xs[t]'(by omega) := by
          simp [Array.getD_eq_getD_getElem?, Array.getElem?_append, show t < xs.length by omega]
        rw [h1]
        exact hx.2 t _ _ (List.getElem?_eq_getElem ht) (List.getElem?_eq_getElem (by omega))
      · rw [List.getElem?_append_right (by omega), List.getElem?_replicate]
        split <;> exact .undef _
    · obtain ⟨g1, W, i1, i2, i3, i4, i5⟩ := hreach
      have hs1 : Step g H w g1 s'.H w' W := by simpa using hst.trans i1
      obtain ⟨vs, hvs, hcase⟩ := finish_cases hfin
      obtain ⟨ys, hy1, hy2⟩ := resultsList_sound (P := P) i1.wf i3 F.results.toList fn.results vs e6 hvs
      have hrun := results_run hy1
      have hpost : ∃ g2, Step g H w g2 r'.2.1 w' r'.2.2 ∧ RetRel g2 r'.2.1 w.heap.size w' r'.1 (tupOf ys) := by
        rcases hcase with ⟨v, v', H2, l, rfl, hfv, rfl⟩ | ⟨vs', H2, l, hne, hfv, rfl⟩
        · have hl : ys.length = 1 := by have := hy2.1; simpa using this.symm
          obtain ⟨y, rfl⟩ := List.length_eq_one_iff.1 hl
          have hnew : ∀ o l, H.length ≤ o → g1.obj o = some l → w.heap.size ≤ l.b := fun o l ho hl => by
            rcases hs1.track o l hl with h1 | ⟨l0, h0, _⟩
            · exact h1
            · have := hw.lt o l0 h0; omega
          obtain ⟨g2, j1, j2⟩ := finV_sound hnew i1.wf hfv (hy2.2 0 v y rfl rfl)
          refine ⟨g2, (hs1.trans j1).narrow hw.lt fun o ho hb => ?_, j2⟩
          rcases List.mem_append.1 ho with ho | ho
          · exact (addWr_spec _ _ _).1 o (i2 o ho hb)
          · exact (addWr_spec _ _ _).2 o ho hb
        · obtain ⟨g2, j1, j2⟩ := finVs_sound i1.wf hfv hy2
          have ht : tupOf ys = .tuple ys.toArray := by
            have := hy2.1
            cases ys with
            | nil => rfl
            | cons y r => cases r with
              | nil => simp at this; omega
              | cons z r => rfl
          rw [ht]
          refine ⟨g2, (hs1.trans j1).narrow hw.lt fun o ho hb => ?_, ?_⟩
          · rcases List.mem_append.1 ho with ho | ho
            · exact (addWr_spec _ _ _).1 o (i2 o ho hb)
            · exact (addWr_spec _ _ _).2 o ho hb
          · exact VRel.tup vs' ys.toArray (by simpa using j2.1) fun i a x ha hx => j2.2 i a x ha (by simpa using hx)
      have hfinal : ∃ g2, Step g H w g2 H' w' wr ∧ RetRel g2 H' w.heap.size w' av (tupOf ys) := by
        obtain ⟨g2, k1, k2⟩ := hpost
        obtain ⟨v3, H3, wr3⟩ := r'
        simp only [cutBack] at hr
        split at hr
        · rename_i hcut
          simp only [Bool.and_eq_true] at hcut
          cases hr
          refine ⟨g2.cut H.length, Step.cut hw k1 fun o ho x hx => ?_, RetRel.cut k2 hcut.1⟩
          have := List.all_eq_true.1 hcut.2 o ho
          rw [hx] at this
          exact this
        · cases hr; exact ⟨g2, k1, k2⟩
      have hb : bodyPost P F (fun e w' => match e with | .returned v => ∃ g', Step g H w g' H' w' wr ∧ RetRel g' H' w.heap.size w' av v | _ => False) e.real a' w' := by
        rcases hee with rfl | rfl
        · exact ⟨i4, _, hrun, hfinal⟩
        · exact ⟨i4, _, hrun, hfinal⟩
      exact hb
theorem code_sound (A0 : Good P glob A) (n : Nat) : CodeOk P glob A n := by
  induction n using Nat.strongRecOn with
  | _ n ihs =>
  cases n with
  | zero => exact fun c frz x s e s' h => by rw [evCode_zero] at h; cases h
  | succ n =>
    have ih := ihs n (Nat.lt_succ_self n)
    have hcall := call_sound A0 ih
    have hfr : CallFr (evCall A n) := evCall_fr n
    intro c frz x s e s' h g a w hw hg hs Q hQ
    have region : ∀ (m : Nat) (id : Nat) (ops : Array Oper) (d : Bool) (s s' : ASt) (g : G) (e : AExit), CallOk P glob (evCall A m) → WF g s.H w → SlotRel g s.ρ a.tmps → GlobOk glob g → evCode A (m + 1) c (.region d (cOps P glob ops.toList ops.toList [])) s = some (e, s') →
        ∀ Q : Exit → Act → World → Prop, (∀ a' w', Reach glob c.base g s.H w a.defers s' a' w' → Q e.real a' w') → (Code.region id ops d).wp P Q a w := by
      intro m id ops d s s' g e hc hw hs hg h Q hQ
      rw [evCode_region] at h
      split at h
      · rename_i s1 hr
        cases h
        cases d with
        | true => exact draw_sound A0.mixed hc (evCall_fr m) hr hw hg hs hQ
        | false =>
          simp only [evRegion, Bool.false_and, Bool.false_eq_true, if_false] at hr
          exact region_sound hc hr hw hg hs hQ
      · cases h
    have noloop : ∀ {y : Code}, (∀ b, y ≠ .loop b) → y.wp P Q a w → y.wp P Q a w ∧ ∀ b, y = .loop b → Code.rounds P b Q (n + 1) a w := fun hne hwp => ⟨hwp, fun b hb => absurd hb (hne b)⟩
    cases x with
    | skip =>
      refine noloop (fun b => by simp) (wp_skip ?_)
      simp only [cCode, evCode_skip, Option.some.injEq, Prod.mk.injEq] at h
      obtain ⟨rfl, rfl⟩ := h
      exact hQ a w (.refl hw hs hg)
    | region id ops d =>
      refine noloop (fun b => by simp) ?_
      simp only [cCode] at h
      split at h
      · exact region n id ops d s s' g e hcall hw hs hg h Q hQ
      · rename_i ts _
        rw [evCode_seq] at h
        cases n with
        | zero => rw [evCode_zero] at h; cases h
        | succ m =>
          rw [evCode_frz] at h
          split at h
          · rename_i s1 hz
            split at hz
            · rename_i s2 hf
              cases hz
              have hreach := frz_sound _ s s1 hf g (w := w) (a := a) hw hg hs
              obtain ⟨g1, W, i1, i2, i3, i4, i5⟩ := hreach
              have hcm : CallOk P glob (evCall A m) := call_sound A0 (ihs m (by omega))
              refine region m id ops d s1 s' g1 e hcm i1.wf i3 i5 h Q fun a' w' hr => hQ a' w' ?_
              obtain ⟨g2, W', j1, j2, j3, j4, j5⟩ := hr
              refine ⟨g2, W ++ W', i1.trans j1, fun o ho hb => ?_, j3, j4, j5⟩
              rcases List.mem_append.1 ho with ho | ho
              · exact (evCode_fr _ _ _ _ _ _ h).2.1 o (i2 o ho hb)
              · exact j2 o ho hb
            · cases hz
          · rename_i hne
            exfalso
            split at h
            · rename_i s2 hf
              exact hne s2 (by rw [hf])
            · cases h
    | seq x y =>
      refine noloop (fun b => by simp) (wp_seq ?_)
      simp only [cCode, evCode_seq] at h
      split at h
      · rename_i s1 h1
        refine (ih c frz x s _ s1 h1 g a w hw hg hs _ fun a1 w1 hr => ?_).1
        obtain ⟨g1, W, i1, i2, i3, i4, i5⟩ := hr
        refine (ih c frz y s1 e s' h g1 a1 w1 i1.wf i5 i3 Q fun a' w' hr' => hQ a' w' ?_).1
        exact Reach.join i1 i2 i4 (evCode_fr _ _ _ _ _ _ h).2.1 hr'
      · rename_i hne
        refine (ih c frz x s e s' h g a w hw hg hs _ fun a1 w1 hr => ?_).1
        cases e with
        | normal => exact absurd h (hne s')
        | exit id => exact hQ a1 w1 hr
        | ret => exact hQ a1 w1 hr
    | cond t x y =>
      refine noloop (fun b => by simp) ?_
      cases t with
      | tmp t =>
        simp only [cCode, evCode_cond] at h
        have hv := hs.2 t
        split at h
        · rename_i hb
          simp only [AOpd.ev] at hb
          rw [hb] at hv
          have he : a.eval (.tmp t) = .bool true := by cases hv'  : a.tmps.getD t Go.undef <;> rw [hv'] at hv <;> cases hv; exact hv'
          exact wp_cond_true he (ih c frz x s e s' h g a w hw hg hs Q hQ).1
        · rename_i hb
          simp only [AOpd.ev] at hb
          rw [hb] at hv
          have he : a.eval (.tmp t) = .bool false := by cases hv'  : a.tmps.getD t Go.undef <;> rw [hv'] at hv <;> cases hv; exact hv'
          exact wp_cond_false he (ih c frz y s e s' h g a w hw hg hs Q hQ).1
        · cases h
      | _ => simp only [cCode, evCode_bad] at h; cases h
    | block id b =>
      refine noloop (fun b => by simp) (wp_block ?_)
      simp only [cCode, evCode_block] at h
      split at h
      · rename_i id' s1 h1
        refine (ih c frz b s _ s1 h1 g a w hw hg hs _ fun a1 w1 hr => ?_).1
        split at h
        · rename_i hid
          cases h
          simp only [AExit.real, Exit.inBlock, hid, if_true]
          exact hQ a1 w1 hr
        · rename_i hid
          cases h
          simp only [AExit.real, Exit.inBlock, hid, if_false]
          exact hQ a1 w1 hr
      · rename_i hne
        refine (ih c frz b s e s' h g a w hw hg hs _ fun a1 w1 hr => ?_).1
        cases e with
        | normal => exact hQ a1 w1 hr
        | exit id' => exact absurd h (hne id' s')
        | ret => exact hQ a1 w1 hr
    | loop b =>
      have key : Code.rounds P b Q (n + 1) a w := by
        simp only [cCode, evCode_loop] at h
        rw [rounds_succ]
        split at h
        · rename_i s1 h1
          refine (ih c frz b s _ s1 h1 g a w hw hg hs _ fun a1 w1 hr => ?_).1
          obtain ⟨g1, W, i1, i2, i3, i4, i5⟩ := hr
          refine (ih c frz (.loop b) s1 e s' h g1 a1 w1 i1.wf i5 i3 Q fun a' w' hr' => hQ a' w' ?_).2 b rfl
          exact Reach.join i1 i2 i4 (evCode_fr _ _ _ _ _ _ h).2.1 hr'
        · rename_i hne
          refine (ih c frz b s e s' h g a w hw hg hs _ fun a1 w1 hr => ?_).1
          cases e with
          | normal => exact absurd h (hne s')
          | exit id => exact hQ a1 w1 hr
          | ret => exact hQ a1 w1 hr
      exact ⟨wp_loop_rounds _ key, fun b' hb' => by cases hb'; exact key⟩
    | exit id =>
      refine noloop (fun b => by simp) (wp_exit ?_)
      simp only [cCode, evCode_exit, Option.some.injEq, Prod.mk.injEq] at h
      obtain ⟨rfl, rfl⟩ := h
      exact hQ a w (.refl hw hs hg)
    | ret =>
      refine noloop (fun b => by simp) (wp_ret ?_)
      simp only [cCode, evCode_ret, Option.some.injEq, Prod.mk.injEq] at h
      obtain ⟨rfl, rfl⟩ := h
      exact hQ a w (.refl hw hs hg)
    | _ => simp only [cCode, evCode_bad] at h; cases h
theorem evCall_sound (A0 : Good P glob A) (n : Nat) : CallOk P glob (evCall A n) := call_sound A0 (code_sound A0 n)
end
end Go.Proofs.AM
end
