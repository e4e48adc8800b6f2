/- Part 24 of the proof that stands in the last text of this folder (lemmas; no statement of its own). -/
import Derived.Test.YtjomjnkapjgheaaDoorK15
import Derived.Test.YtjomjnkapjgheaaDoorK16
import Derived.Test.YtjomjnkapjgheaaDoorK17
import Derived.Test.YtjomjnkapjgheaaDoorK20
section
open Nat renaming reduceBEq → NB, reduceAdd → NA, reduceSub → NS, reduceMul → NM, reduceLT → NL, reduceLeDiff → ND, reduceEqDiff → NE
open Int renaming reduceLT → IL, reduceLE → ID, reduceToNat → IT, reduceEq → IE, reduceBEq → IB, reduceBNe → IN, reduceAdd → IA, reduceSub → IS, reduceNeg → IM
open Bool renaming not_true → BT, not_false → BF
set_option linter.unusedVariables false
set_option maxRecDepth 8000
namespace Go.Proofs.AM
open Go
abbrev dactylref23_has_d0 (g : String → Nat) : List AOper := [⟨some 12, .mov (.tmp 0), none, []⟩,⟨some 13, .mov (.tmp 5), none, []⟩,⟨some 14, .iaV (.tmp 12) (.tmp 13) 4, none, [0, 1]⟩,⟨some 15, .load 4 true (.tmp 14), none, [2, 0, 1]⟩,⟨some 16, .load 4 true (.tmp 3), none, []⟩,⟨some 17, .bin .eql (.cells [.int, .int, .int, .int]) (.tmp 15) (.tmp 16), none, [3, 2, 0, 1, 4]⟩]
abbrev dactylref23_has_k0 : List Nat := []
abbrev dactylref23_has_l0 (g : String → Nat) : ACode := .seq (.seq (.region false [⟨some 6, .mov (.tmp 5), none, []⟩,⟨some 7, .mov (.tmp 0), none, []⟩,⟨some 8, .lenV (.tmp 7), none, [1]⟩,⟨some 9, .bin .lss .no (.tmp 6) (.tmp 8), none, [0, 2, 1]⟩]) <| .cond (.tmp 9) (.skip) (.exit 0)) <| .seq (.block 1 (.seq (.region true (dactylref23_has_d0 g)) <| .cond (.tmp 17) (.seq (.region false [⟨some 4, .mov (.const (.bool true)), none, []⟩]) <| .ret) (.skip))) <| .region false [⟨some 10, .mov (.tmp 5), none, []⟩,⟨some 11, .bin .add .no (.tmp 10) (.const (.int .i64 1)), none, [0]⟩,⟨some 5, .mov (.tmp 11), none, [1, 0]⟩]
abbrev dactylref23_has_w0 : List Nat := [6, 7, 8, 9, 12, 13, 14, 15, 16, 17, 4, 10, 11, 5]
def dactylref23_has (g : String → Nat) : AFn := ⟨18, [3], [.tmp 4],
  .seq (.region false [⟨some 3, .box 4 (.tmp 1), none, []⟩,
    ⟨some 4, .mov (.const (.bool false)), none, []⟩]) <|
  .seq (.seq (.region false [⟨some 5, .mov (.const (.int .i64 0)), none, []⟩]) <|
  .block 0 (.loop (dactylref23_has_l0 g))) <|
  .seq (.region false [⟨some 4, .mov (.const (.bool false)), none, []⟩]) <|
  .ret⟩
abbrev dactylref23_Maker_Question_l0 (g : String → Nat) : ACode := .seq (.seq (.region false [⟨some 16, .mov (.tmp 6), none, []⟩,⟨some 17, .mov (.tmp 1), none, []⟩,⟨some 18, .bin .lss .no (.tmp 16) (.tmp 17), none, [0, 1]⟩]) <| .cond (.tmp 18) (.skip) (.exit 0)) <| .seq (.block 1 (.seq (.region false [⟨some 21, .mov (.tmp 0), none, []⟩,⟨some 22, .callv (.const (.fn (g "(*dactyl/dactylref23.Maker).Take") [] [])) [(.tmp 21), (.const (.int .i64 2))], none, [0]⟩,⟨some 23, .bin .eql .no (.tmp 22) (.const (.int .i64 0)), none, [1, 0]⟩]) <| .cond (.tmp 23) (.region false [⟨some 24, .fa 3 (.tmp 5), none, []⟩,⟨some 25, .load 1 false (.tmp 24), none, [0]⟩,⟨some 26, .mov (.tmp 6), none, []⟩,⟨some 27, .bsl 1 [(.int .i64 0)] 1 [(0, (.tmp 26))], none, [2]⟩,⟨some 28, .app 1 8 (.tmp 25) (.tmp 27), none, [1, 0, 3, 2]⟩,⟨some 29, .fa 3 (.tmp 5), none, [4, 1, 0, 3, 2]⟩,⟨none, .store 1 (.tmp 29) (.tmp 28), none, [5, 4, 1, 0, 3, 2]⟩]) (.skip))) <| .region false [⟨some 19, .mov (.tmp 6), none, []⟩,⟨some 20, .bin .add .no (.tmp 19) (.const (.int .i64 1)), none, [0]⟩,⟨some 6, .mov (.tmp 20), none, [1, 0]⟩]
abbrev dactylref23_Maker_Question_w0 : List Nat := [16, 17, 18, 21, 22, 23, 24, 25, 26, 27, 28, 29, 19, 20, 6]
abbrev dactylref23_Maker_Question_d0 (g : String → Nat) : List AOper := [⟨some 45, .fa 2 (.tmp 5), none, []⟩,⟨some 46, .load 1 false (.tmp 45), none, [0]⟩,⟨some 47, .mov (.tmp 0), none, []⟩,⟨some 48, .callv (.const (.fn (g "(*dactyl/dactylref23.Maker).Phrase") [] [])) [(.tmp 47)], none, [2]⟩,⟨some 49, .bsl 1 [(.str [])] 4 [(0, (.const (.str [121, 101, 115]))), (1, (.const (.str [110, 111]))), (2, (.tmp 48)), (3, (.const (.str [52, 50])))], none, [3, 2]⟩,⟨some 50, .mov (.tmp 8), none, []⟩,⟨some 51, .mov (.tmp 0), none, []⟩,⟨some 52, .callv (.const (.fn (g "(*dactyl/dactylref23.Maker).Take") [] [])) [(.tmp 51), (.const (.int .i64 2))], none, [6, 3, 2]⟩,⟨some 53, .bin .add .no (.tmp 50) (.tmp 52), none, [5, 7, 6, 3, 2]⟩,⟨some 54, .bin .rem .no (.tmp 53) (.const (.int .i64 4)), none, [8, 5, 7, 6, 3, 2]⟩,⟨some 55, .iaV (.tmp 49) (.tmp 54) 1, none, [4, 9, 8, 5, 7, 6, 3, 2]⟩,⟨some 56, .load 1 false (.tmp 55), none, [10, 4, 9, 8, 5, 7, 6, 3, 2]⟩,⟨some 57, .bsl 1 [(.str [])] 1 [(0, (.tmp 56))], none, [11, 10, 4, 9, 8, 5, 7, 6, 3, 2]⟩,⟨some 58, .app 1 16 (.tmp 46) (.tmp 57), none, [1, 0, 12, 11, 10, 4, 9, 8, 5, 7, 6, 3, 2]⟩,⟨some 59, .fa 2 (.tmp 5), none, [13, 1, 0, 12, 11, 10, 4, 9, 8, 5, 7, 6, 3, 2]⟩,⟨none, .store 1 (.tmp 59) (.tmp 58), none, [14, 13, 1, 0, 12, 11, 10, 4, 9, 8, 5, 7, 6, 3, 2]⟩]
abbrev dactylref23_Maker_Question_k0 : List Nat := [1, 3, 7]
abbrev dactylref23_Maker_Question_d1 (g : String → Nat) : List AOper := [⟨some 60, .fa 6 (.tmp 5), none, []⟩,⟨some 61, .load 1 false (.tmp 60), none, [0]⟩,⟨some 62, .bsl 1 [(.str [])] 3 [(0, (.const (.str []))), (1, (.const (.str [105, 116, 32, 108, 111, 111, 107, 115, 32, 115, 111]))), (2, (.const (.str [97, 32, 115, 108, 105, 112])))], none, []⟩,⟨some 63, .mov (.tmp 0), none, []⟩,⟨some 64, .callv (.const (.fn (g "(*dactyl/dactylref23.Maker).Take") [] [])) [(.tmp 63), (.const (.int .i64 3))], none, [3]⟩,⟨some 65, .iaV (.tmp 62) (.tmp 64) 1, none, [2, 4, 3]⟩,⟨some 66, .load 1 false (.tmp 65), none, [5, 2, 4, 3]⟩,⟨some 67, .bsl 1 [(.str [])] 1 [(0, (.tmp 66))], none, [6, 5, 2, 4, 3]⟩,⟨some 68, .app 1 16 (.tmp 61) (.tmp 67), none, [1, 0, 7, 6, 5, 2, 4, 3]⟩,⟨some 69, .fa 6 (.tmp 5), none, [8, 1, 0, 7, 6, 5, 2, 4, 3]⟩,⟨none, .store 1 (.tmp 69) (.tmp 68), none, [9, 8, 1, 0, 7, 6, 5, 2, 4, 3]⟩]
abbrev dactylref23_Maker_Question_k1 : List Nat := [1, 4]
abbrev dactylref23_Maker_Question_l1 (g : String → Nat) : ACode := .seq (.seq (.region false [⟨some 40, .mov (.tmp 8), none, []⟩,⟨some 41, .mov (.tmp 7), none, []⟩,⟨some 42, .bin .lss .no (.tmp 40) (.tmp 41), none, [0, 1]⟩]) <| .cond (.tmp 42) (.skip) (.exit 3)) <| .seq (.block 4 (.seq (.region true (dactylref23_Maker_Question_d0 g)) <| .region true (dactylref23_Maker_Question_d1 g))) <| .region false [⟨some 43, .mov (.tmp 8), none, []⟩,⟨some 44, .bin .add .no (.tmp 43) (.const (.int .i64 1)), none, [0]⟩,⟨some 8, .mov (.tmp 44), none, [1, 0]⟩]
abbrev dactylref23_Maker_Question_w1 : List Nat := [40, 41, 42, 45, 46, 47, 48, 49, 50, 51, 52, 53, 54, 55, 56, 57, 58, 59, 60, 61, 62, 63, 64, 65, 66, 67, 68, 69, 43, 44, 8]
def dactylref23_Maker_Question_b2 (g : String → Nat) : ACode := .block 2 (.seq (.region false [⟨some 36, .bin .eql .no (.tmp 31) (.const (.int .i64 0)), none, []⟩,⟨some 35, .mov (.tmp 36), none, [0]⟩]) <| .cond (.tmp 35) (.seq (.region false [⟨some 37, .mov (.tmp 0), none, []⟩,⟨some 38, .callv (.const (.fn (g "(*dactyl/dactylref23.Maker).Take") [] [])) [(.tmp 37), (.const (.int .i64 3))], none, [0]⟩,⟨some 39, .bin .add .no (.const (.int .i64 2)) (.tmp 38), none, [1, 0]⟩,⟨some 7, .mov (.tmp 39), none, [2, 1, 0]⟩]) <| .seq (.seq (.region false [⟨some 8, .mov (.const (.int .i64 0)), none, []⟩]) <| .block 3 (.loop (dactylref23_Maker_Question_l1 g))) <| .region false [⟨some 70, .mov (.tmp 0), none, []⟩,⟨some 71, .mov (.tmp 7), none, []⟩,⟨some 72, .callv (.const (.fn (g "(*dactyl/dactylref23.Maker).Take") [] [])) [(.tmp 70), (.tmp 71)], none, [0, 1]⟩,⟨some 73, .callv (.const (.fn (g "dactyl/dactylref23.Decimal") [] [])) [(.tmp 72)], none, [2, 0, 1]⟩,⟨some 74, .fa 4 (.tmp 5), none, [3, 2, 0, 1]⟩,⟨none, .store 1 (.tmp 74) (.tmp 73), none, [4, 3, 2, 0, 1]⟩]) (.seq (.region false [⟨some 76, .bin .eql .no (.tmp 31) (.const (.int .i64 1)), none, []⟩,⟨some 75, .mov (.tmp 76), none, [0]⟩]) <| .cond (.tmp 75) (.region false [⟨some 77, .mov (.tmp 0), none, []⟩,⟨some 78, .callv (.const (.fn (g "(*dactyl/dactylref23.Maker).Take") [] [])) [(.tmp 77), (.const (.int .i64 200))], none, [0]⟩,⟨some 79, .callv (.const (.fn (g "dactyl/dactylref23.Decimal") [] [])) [(.tmp 78)], none, [1, 0]⟩,⟨some 80, .fa 4 (.tmp 5), none, [2, 1, 0]⟩,⟨none, .store 1 (.tmp 80) (.tmp 79), none, [3, 2, 1, 0]⟩]) (.region false [⟨some 32, .mov (.tmp 0), none, []⟩,⟨some 33, .callv (.const (.fn (g "(*dactyl/dactylref23.Maker).Phrase") [] [])) [(.tmp 32)], none, [0]⟩,⟨some 34, .fa 4 (.tmp 5), none, [1, 0]⟩,⟨none, .store 1 (.tmp 34) (.tmp 33), none, [2, 1, 0]⟩])))
def dactylref23_Maker_Question (g : String → Nat) : AFn := ⟨82, [4, 5, 28, 58, 68], [.cell 4 7 true],
  .seq (.region false [⟨some 4, .alloc [(.int .i64 0), (.sl true []), (.sl true []), (.sl true []), (.str []), (.int .i64 0), (.sl true [])], none, []⟩]) <|
  .seq (.region false [⟨some 9, .mov (.tmp 0), none, []⟩,
    ⟨some 10, .callv (.const (.fn (g "(*dactyl/dactylref23.Maker).Take") [] [])) [(.tmp 9), (.const (.int .i64 3))], none, [0]⟩,
    ⟨some 11, .mov (.tmp 0), none, []⟩,
    ⟨some 12, .callv (.const (.fn (g "(*dactyl/dactylref23.Maker).Runs") [] [])) [(.tmp 11)], none, [2, 1, 0]⟩,
    ⟨some 13, .mov (.tmp 0), none, []⟩,
    ⟨some 14, .callv (.const (.fn (g "(*dactyl/dactylref23.Maker).Take") [] [])) [(.tmp 13), (.const (.int .i64 9))], none, [4, 3, 2, 1, 0]⟩,
    ⟨some 15, .build [(.int .i64 0), (.sl true []), (.sl true []), (.sl true []), (.str []), (.int .i64 0), (.sl true [])] [(0, 1, (.tmp 10)), (1, 1, (.tmp 12)), (5, 1, (.tmp 14))], none, [5, 4, 3, 2, 1, 0]⟩,
    ⟨some 5, .alloc [(.int .i64 0), (.sl true []), (.sl true []), (.sl true []), (.str []), (.int .i64 0), (.sl true [])], none, []⟩,
    ⟨none, .store 7 (.tmp 5) (.tmp 15), none, [6, 5, 4, 3, 2, 1, 0, 7]⟩]) <|
  .seq (.seq (.region false [⟨some 6, .mov (.const (.int .i64 0)), none, []⟩]) <|
  .block 0 (.loop (dactylref23_Maker_Question_l0 g))) <|
  .seq (.seq (.region false [⟨some 30, .fa 0 (.tmp 5), none, []⟩,
    ⟨some 31, .load 1 false (.tmp 30), none, [0]⟩]) <|
  dactylref23_Maker_Question_b2 g) <|
  .seq (.region false [⟨some 81, .load 7 true (.tmp 5), none, []⟩,
    ⟨none, .store 7 (.tmp 4) (.tmp 81), none, [0]⟩]) <|
  .ret⟩
theorem eqv_fact_cells {a b : Fact} : eqCells [.int, .int, .int, .int] (encFact a) (encFact b) = some (eqv a b) := by
  rw [eqv_fact]; simp only [encFact, eqCells, eqAtom, if_true, beqI]
  cases eqv a.kind b.kind <;> cases eqv a.block b.block <;> cases eqv a.a b.a <;> cases eqv a.b b.b <;> rfl
theorem eql_cells {ts : List Tag} {x y : List AV} {b : Bool} (h : eqCells ts x y = some b) : binV .eql (.cells ts) (.agg x) (.agg y) = some (.bool b) := by
  simp [binV, eqOther, h]
theorem has_spec {A : AProg} {g : String → Nat} (h : Has A g "dactyl/dactylref23.has" (dactylref23_has g)) (l : List Fact) (hl : l.length ≤ 1000) (f : Fact) : ∃ b : Bool, ∀ H, callI A (g "dactyl/dactylref23.has") [.sl false (l.map encFact), .agg (encFact f)] H = some (.bool b, H, []) := by
  refine ⟨l.any fun a => eqv a f, fun H => ?_⟩
  refine h.call (by simp [dactylref23_has]) (by kernel_rfl) ?_
  simp only [dactylref23_has]
  simp only [go_sem, ↓reduceIte, NA, NL, encFact]
  refine wl_for (W := dactylref23_has_w0) (fun i ρ1 H1 wr => wr = [] ∧ ρ1 5 = vi i ∧ H1 = H ++ [.box 1 (encFact f)] ∧ (l.any fun a => eqv a f) = ((l.drop i).any fun a => eqv a f)) l.length (by kernel_rfl) (by rfl) ⟨rfl, by simp only [go_sem], by simp only [go_sem, encFact], rfl⟩ ?_
  rintro i ρ1 H1 wr1 hil ⟨rfl, h5, rfl, hi⟩ hf
  have f0 : ρ1 0 = .sl false (l.map encFact) := by rw [hf 0 (by decide)]; simp only [go_sem, NB]
  have f3 : ρ1 3 = .ptr H.length 1 0 := by rw [hf 3 (by decide)]; simp only [go_sem, NB]
  simp only [go_sem, NB, f0, h5]
  refine branch_intro (fun hb => ?_) (fun hb => ?_)
  · have hlt : i < l.length := by simpa using hb
    rw [List.drop_eq_getElem_cons hlt, List.any_cons] at hi
    simp only [go_sem]
    refine wc_draw' (keep := dactylref23_has_k0) (by rfl) (by rfl) ?_
    have h4 : ∀ a : Fact, (encFact a).length = 4 := fun _ => rfl
    have ht : ∀ a : Fact, List.take 4 (encFact a) = encFact a := fun _ => rfl
    simp only [go_sem, ↓reduceIte, NB, NA, dactylref23_has_k0, f0, f3, h5, hlt, getElem?_map_of hlt, h4, ht, eql_cells eqv_fact_cells]
    refine branch_intro (fun hb2 => ?_) (fun hb2 => ?_)
    · rw [hb2, Bool.true_or] at hi
      simp only [go_sem, hi]
    · rw [hb2, Bool.false_or] at hi
      simp only [go_sem, NB, h5]
      rw [wrap_succ (by omega)]
      exact ⟨hlt, rfl, hi⟩
  · have hlt : i = l.length := by
      have : ¬ i < l.length := by simpa using hb
      omega
    subst hlt
    rw [List.drop_eq_nil_of_le (Nat.le_refl _), List.any_nil] at hi
    simp only [go_sem, hi]
theorem small_ok' {n : Int} (h0 : 0 ≤ n) (h1 : n ≤ 1000000) : IntOk n := by constructor <;> omega
structure MQuestion (q : Question) : Prop where
  ok : q.Ok
  lens : q.options.length ≤ 4 ∧ q.reasons.length ≤ 4 ∧ q.needs.length ≤ 10 ∧ q.stem.length ≤ 3
  stem : ∀ r ∈ q.stem, r.text.length ≤ 60
abbrev IsQuestion (v : AV) : Prop := ∃ q : Question, v = .agg (encQ q) ∧ MQuestion q
theorem q_needs {A : AProg} {g : String → Nat} (ht : SpecTake A g) {H : List AObj} {Q : AExit → SEnv → List AObj → List Nat → Prop} {tg} {l : List Int} (hl : ListOk l) {o v : Nat} (hlt : o < H.length)
    {i : Int} {o0 o2 o3 o4 : AObj} {vq : Nat} {c0 c1 c2 c4 c5 c6 : AV} {m : Nat} (hm : m ≤ 10) {ρ : SEnv} (e0 : ρ 0 = .ptr o v 0) (e1 : ρ 1 = vi m) (e5 : ρ 5 = .ptr (H.length + 1) vq 0) (e6 : ρ 6 = vi 0)
    (hQ : ∀ ρ' i' o2 w (r : List Int), (∀ t, dactylref23_Maker_Question_w0.contains t = false → ρ' t = ρ t) → r.length ≤ 10 → (∀ a ∈ r, IntOk a) → GSl (H.length + 2) 1 (r.map encInt) w o2 →
      Q (.exit 0) ρ' (H.set o (.box v (makerCells l i')) ++ [o0, .box vq [c0, c1, c2, w, c4, c5, c6], o2, o3, o4]) [o]) :
    wl A 82 ⟨H.length, [4, 5, 28, 58, 68]⟩ (dactylref23_Maker_Question_l0 g) ρ (H.set o (.box v (makerCells l i)) ++ [o0, .box vq [c0, c1, c2, .sl true [], c4, c5, c6], o2, o3, o4]) [o] Q tg := by
  refine wl_for2 (W := dactylref23_Maker_Question_w0) (fun j ρ1 H1 wr => wr = [o] ∧ ρ1 6 = vi j ∧ ∃ i' o2 w, ∃ r : List Int, H1 = H.set o (.box v (makerCells l i')) ++ [o0, .box vq [c0, c1, c2, w, c4, c5, c6], o2, o3, o4] ∧ GSl (H.length + 2) 1 (r.map encInt) w o2 ∧ r.length ≤ j ∧ ∀ a ∈ r, IntOk a) m
    (fun ρ1 H1 wr => wr = [o] ∧ ∃ i' o2 w, ∃ r : List Int, H1 = H.set o (.box v (makerCells l i')) ++ [o0, .box vq [c0, c1, c2, w, c4, c5, c6], o2, o3, o4] ∧ GSl (H.length + 2) 1 (r.map encInt) w o2 ∧ r.length ≤ 10 ∧ ∀ a ∈ r, IntOk a)
    (by kernel_rfl) (by rfl) ⟨rfl, e6, i, o2, .sl true [], [], rfl, .nil _, Nat.le_refl _, by simp⟩ ?_ (by
      rintro ρ' H' wr' ⟨rfl, i', o2, w, r, rfl, hg, hr1, hr2⟩ hf
      exact hQ ρ' i' o2 w r hf hr1 hr2 hg)
  rintro j ρ1 H1 wr1 hjl ⟨rfl, e6, i', o2, w, r, rfl, hg, hrl, hro⟩ hf
  have f0 : ρ1 0 = .ptr o v 0 := (hf 0 (by decide)).trans e0
  have f1 : ρ1 1 = vi m := (hf 1 (by decide)).trans e1
  have f5 : ρ1 5 = .ptr (H.length + 1) vq 0 := (hf 5 (by decide)).trans e5
  simp only [go_sem, NB, f1, e6]
  refine branch_intro (fun hb => ?_) (fun hb => ?_)
  · have hlt2 : j < m := by simpa using hb
    simp only [go_sem, ↓reduceIte, NB, NE, f0]
    refine gen_call (take_gen ht (m := 2) (by decide)) hl (i := i') (by simp only [go_sem, old_get_set, hlt]) ?_
    rintro val i3 ⟨x, rfl, hx0, hx1⟩
    simp only [go_sem, ↓reduceIte, hlt, old_set_set]
    refine branch_intro (fun hb2 => ?_) (fun hb2 => ?_)
    · obtain ⟨v', o', hg', happ⟩ := hg.app (new := [[vi j]]) (bytes := 8) (by simp) (by rfl) (by simp only [List.length_map, List.length_cons, List.length_nil]; omega)
      rw [show r.map encInt ++ [[vi j]] = (r ++ [(j : Int)]).map encInt by simp [encInt]] at hg'
      simp only [go_sem, ↓reduceIte, NB, NA, NL, ND, NE, f5, e6, happ, hg'.cellOk, hg'.strip1]
      rw [wrap_succ (by omega)]
      refine ⟨hlt2, rfl, i3, o', v', r ++ [(j : Int)], rfl, hg', by simp; omega, ?_⟩
      intro a ha
      rcases List.mem_append.1 ha with ha | ha
      · exact hro a ha
      · have : a = (j : Int) := by simpa using ha
        subst this
        exact small_ok' (by omega) (by omega)
    · simp only [go_sem, NB, e6]
      rw [wrap_succ (by omega)]
      exact ⟨hlt2, rfl, i3, o2, w, r, rfl, hg, by omega, hro⟩
  · have hlt2 : j = m := by
      have : ¬ j < m := by simpa using hb
      omega
    subst hlt2
    simp only [go_sem]
    exact ⟨i', o2, w, r, rfl, hg, by omega, hro⟩
theorem q_options {A : AProg} {g : String → Nat} (ht : SpecTake A g) (hp : GenSpec A (g "(*dactyl/dactylref23.Maker).Phrase") [] IsText) {H : List AObj} {Q : AExit → SEnv → List AObj → List Nat → Prop} {tg} {l : List Int} (hl : ListOk l) {o v : Nat} (hlt : o < H.length)
    {i : Int} {o0 o2 o3 o4 : AObj} {vq : Nat} {c0 c1 c3 c4 c5 : AV} {n : Int} (hn0 : 2 ≤ n) (hn1 : n ≤ 4) {ρ : SEnv} (e0 : ρ 0 = .ptr o v 0) (e5 : ρ 5 = .ptr (H.length + 1) vq 0) (e7 : ρ 7 = vi n) (e8 : ρ 8 = vi 0)
    (hQ : ∀ ρ' i' o3 o4 w w' (r r' : List Str), (∀ t, dactylref23_Maker_Question_w1.contains t = false → ρ' t = ρ t) → r.length ≤ 4 → (∀ a ∈ r, a.length ≤ 60) → r'.length ≤ 4 → (∀ a ∈ r', a.length ≤ 60) →
      GSl (H.length + 3) 1 (r.map encStr) w o3 → GSl (H.length + 4) 1 (r'.map encStr) w' o4 →
      Q (.exit 3) ρ' (H.set o (.box v (makerCells l i')) ++ [o0, .box vq [c0, c1, w, c3, c4, c5, w'], o2, o3, o4]) [o]) :
    wl A 82 ⟨H.length, [4, 5, 28, 58, 68]⟩ (dactylref23_Maker_Question_l1 g) ρ (H.set o (.box v (makerCells l i)) ++ [o0, .box vq [c0, c1, .sl true [], c3, c4, c5, .sl true []], o2, o3, o4]) [o] Q tg := by
  refine wl_for2 (W := dactylref23_Maker_Question_w1) (fun j ρ1 H1 wr => wr = [o] ∧ ρ1 8 = vi j ∧ ∃ i' o3 o4 w w', ∃ r r' : List Str, H1 = H.set o (.box v (makerCells l i')) ++ [o0, .box vq [c0, c1, w, c3, c4, c5, w'], o2, o3, o4] ∧
      GSl (H.length + 3) 1 (r.map encStr) w o3 ∧ GSl (H.length + 4) 1 (r'.map encStr) w' o4 ∧ r.length = j ∧ r'.length = j ∧ (∀ a ∈ r, a.length ≤ 60) ∧ ∀ a ∈ r', a.length ≤ 60) n.toNat
    (fun ρ1 H1 wr => wr = [o] ∧ ∃ i' o3 o4 w w', ∃ r r' : List Str, H1 = H.set o (.box v (makerCells l i')) ++ [o0, .box vq [c0, c1, w, c3, c4, c5, w'], o2, o3, o4] ∧
      GSl (H.length + 3) 1 (r.map encStr) w o3 ∧ GSl (H.length + 4) 1 (r'.map encStr) w' o4 ∧ r.length ≤ 4 ∧ r'.length ≤ 4 ∧ (∀ a ∈ r, a.length ≤ 60) ∧ ∀ a ∈ r', a.length ≤ 60)
    (by kernel_rfl) (by rfl) ⟨rfl, e8, i, o3, o4, .sl true [], .sl true [], [], [], rfl, .nil _, .nil _, rfl, rfl, by simp, by simp⟩ ?_ (by
      rintro ρ' H' wr' ⟨rfl, i', o3, o4, w, w', r, r', rfl, hg, hg', h1, h2, h3, h4⟩ hf
      exact hQ ρ' i' o3 o4 w w' r r' hf h1 h3 h2 h4 hg hg')
  rintro j ρ1 H1 wr1 hjl ⟨rfl, e8, i', o3, o4, w, w', r, r', rfl, hg, hh, hrl, hrl', hro, hro'⟩ hf
  have f0 : ρ1 0 = .ptr o v 0 := (hf 0 (by decide)).trans e0
  have f5 : ρ1 5 = .ptr (H.length + 1) vq 0 := (hf 5 (by decide)).trans e5
  have f7 : ρ1 7 = vi n := (hf 7 (by decide)).trans e7
  simp only [go_sem, NB, f7, e8]
  refine branch_intro (fun hb => ?_) (fun hb => ?_)
  · have hlt2 : j < n.toNat := by simp at hb; omega
    have hne : (H.length + 1 == o) = false := by simp; omega
    simp only [go_sem]
    refine wc_draw' (keep := dactylref23_Maker_Question_k0) (by rfl) (by rfl) ?_
    simp only [go_sem, ↓reduceIte, NB, NA, NL, ND, NE, dactylref23_Maker_Question_k0, f0, f5, e8]
    refine gen_callD hp hl (i := i') (by simp only [go_sem, old_get_set, hlt]) ?_
    rintro val i3 ⟨s, rfl, hs⟩
    simp only [go_sem, ↓reduceIte, NA, hlt, old_set_set]
    refine gen_callD (take_gen ht (m := 2) (by decide)) hl (i := i3) (by simp only [go_sem, old_get_set, hlt]) ?_
    rintro val i4 ⟨y, rfl, hy0, hy1⟩
    have hwy : IntKind.i64.wrap ((j : Int) + y) = j + y := wrap_i64 (by omega) (by omega)
    have hr0 := Int.tmod_nonneg 4 (a := j + y) (by omega)
    have hr1 := Int.tmod_lt_of_pos (j + y) (b := 4) (by decide)
    obtain ⟨t, htm, htab⟩ := tabS [[121, 101, 115], [110, 111], s, [52, 50]] hr0 hr1
    simp only [List.map, encStr] at htab
    have htl : t.length ≤ 60 := by
      simp only [List.mem_cons, List.not_mem_nil, or_false] at htm
      rcases htm with rfl | rfl | rfl | rfl
      · simp
      · simp
      · exact hs
      · simp
    obtain ⟨v', o', hg', happ⟩ := hg.app (new := [[.str t]]) (bytes := 16) (by simp) (by rfl) (by simp only [List.length_map, List.length_cons, List.length_nil]; omega)
    rw [show r.map encStr ++ [[.str t]] = (r ++ [t]).map encStr by simp [encStr]] at hg'
    simp only [go_sem, ↓reduceIte, NB, NA, ND, BF, hlt, old_set_set, hwy, bin_rem (b := 4) (by decide), hr0, htab, happ, hg'.cellOk, hg'.strip1, logOk, apartL, hne, orderOk_intro]
    refine wc_draw' (keep := dactylref23_Maker_Question_k1) (by rfl) (by rfl) ?_
    simp only [go_sem, ↓reduceIte, NB, NA, NL, NE, dactylref23_Maker_Question_k1, f0, f5]
    refine gen_callD (take_gen ht (m := 3) (by decide)) hl (i := i4) (by simp only [go_sem, old_get_set, hlt]) ?_
    rintro val i5 ⟨z, rfl, hz0, hz1⟩
    obtain ⟨u, hum, htab2⟩ := tabS [[], [105, 116, 32, 108, 111, 111, 107, 115, 32, 115, 111], [97, 32, 115, 108, 105, 112]] hz0 hz1
    simp only [List.map, encStr] at htab2
    have hul : u.length ≤ 60 := by
      simp only [List.mem_cons, List.not_mem_nil, or_false] at hum
      rcases hum with rfl | rfl | rfl <;> simp
    obtain ⟨v2, o2', hh', happ2⟩ := hh.app (new := [[.str u]]) (bytes := 16) (by simp) (by rfl) (by simp only [List.length_map, List.length_cons, List.length_nil]; omega)
    rw [show r'.map encStr ++ [[.str u]] = (r' ++ [u]).map encStr by simp [encStr]] at hh'
    simp only [go_sem, ↓reduceIte, NB, NA, BF, e8, hlt, old_set_set, hz0, htab2, happ2, hh'.cellOk, hh'.strip1, logOk, apartL, hne, orderOk_intro]
    rw [wrap_succ (by omega)]
    refine ⟨hlt2, rfl, i5, o', o2', v', v2, r ++ [t], r' ++ [u], rfl, hg', hh', by simp [hrl], by simp [hrl'], ?_, ?_⟩
    · intro a ha
      rcases List.mem_append.1 ha with ha | ha
      · exact hro a ha
      · have : a = t := by simpa using ha
        subst this
        exact htl
    · intro a ha
      rcases List.mem_append.1 ha with ha | ha
      · exact hro' a ha
      · have : a = u := by simpa using ha
        subst this
        exact hul
  · have hlt2 : j = n.toNat := by simp at hb; omega
    subst hlt2
    simp only [go_sem]
    exact ⟨i', o3, o4, w, w', r, r', rfl, hg, hh, by omega, by omega, hro, hro'⟩
theorem goneAll_append : ∀ (H : List AObj) (a b : List Nat), goneAll H (a ++ b) = goneAll (goneAll H a) b
  | H, [], b => rfl
  | H, o :: r, b => by simp only [List.cons_append, goneAll]; exact goneAll_append _ r b
theorem addWr_append (n : Nat) : ∀ (wr a b : List Nat), addWr n wr (a ++ b) = addWr n (addWr n wr a) b
  | wr, [], b => rfl
  | wr, o :: r, b => by
    simp only [List.cons_append, addWr]
    split <;> exact addWr_append n _ r b
set_option maxHeartbeats 3200000 in
theorem question_gen {A : AProg} {g : String → Nat} (h : Has A g "(*dactyl/dactylref23.Maker).Question" (dactylref23_Maker_Question g)) (ht : SpecTake A g) (hp : GenSpec A (g "(*dactyl/dactylref23.Maker).Phrase") [] IsText)
    (hr : GenSpec A (g "(*dactyl/dactylref23.Maker).Runs") [] IsRuns) (hd : SpecDecimal A g) {m : Nat} (hm : m ≤ 10) : GenSpec A (g "(*dactyl/dactylref23.Maker).Question") [vi m] IsQuestion := by
  refine h.gen (by simp [dactylref23_Maker_Question]) (fun n => by kernel_rfl) ?_
  intro l i o v H hl hlt ho
  simp only [dactylref23_Maker_Question]
  simp only [go_sem, ↓reduceIte, NB, NA, NL, ND, NE]
  refine gen_call (take_gen ht (m := 3) (by decide)) hl (i := i) (by simp only [go_sem, old_get, hlt, ho]) ?_
  rintro val i1 ⟨k, rfl, hk0, hk1⟩
  simp only [go_sem, ↓reduceIte, NA, ND, hlt, old_set]
  refine gen_call hr hl (i := i1) (by simp only [go_sem, old_get_set, hlt]) ?_
  rintro val i2 ⟨st, rfl, hs1, hs2, hs3⟩
  simp only [go_sem, ↓reduceIte, NA, ND, hlt, old_set_set]
  refine gen_call (take_gen ht (m := 9) (by decide)) hl (i := i2) (by simp only [go_sem, old_get_set, hlt]) ?_
  rintro val i3 ⟨p, rfl, hp0, hp1⟩
  simp only [go_sem, ↓reduceIte, NA, NL, hlt, old_set_set]
  refine q_needs ht hl hlt (m := m) hm (by simp only [go_sem, NB]) (by simp only [go_sem, NB]) (by simp only [go_sem, NB]) (by simp only [go_sem]) ?_
  intro ρ2 i4 o2 w nd hf2 hn1 hn2 hg
  have g0 : ρ2 0 = .ptr o v 0 := by rw [hf2 0 (by decide)]; simp only [go_sem, NB]
  have g4 : ρ2 4 = .ptr H.length 1 0 := by rw [hf2 4 (by decide)]; simp only [go_sem, NB]
  have g5 : ρ2 5 = .ptr (H.length + 1) 1 0 := by rw [hf2 5 (by decide)]; simp only [go_sem, NB]
  obtain ⟨f1, l1, o2', hl1, hl2, hl3⟩ := hg.lend (dataLL_map data_int _)
  have fin : ∀ (op rs : List Str) (key : Str), op.length ≤ 4 → (∀ a ∈ op, a.length ≤ 60) → rs.length ≤ 4 → (∀ a ∈ rs, a.length ≤ 60) → key.length ≤ 1000 →
      IsQuestion (.agg [vi k, .sl false (st.map encRun), .sl false (op.map encStr), .sl false (nd.map encInt), .str key, vi p, .sl false (rs.map encStr)]) := fun op rs key h1 h2 h3 h4 h5 =>
    ⟨⟨k, st, op, nd, key, p, rs⟩, rfl,⟨⟨small_ok' hk0 (by show k ≤ 1000000; omega), by show st.length ≤ 16; omega, fun a h => (hs3 a h).1, by show op.length ≤ 16; omega, fun s hs => by have := h2 s hs; show s.length ≤ 1000; omega, by show nd.length ≤ 16; omega, hn2, h5, small_ok' hp0 (by show p ≤ 1000000; omega), by show rs.length ≤ 16; omega, fun s hs => by have := h4 s hs; show s.length ≤ 1000; omega⟩,⟨h1, h3, hn1, hs2⟩, fun a h => (hs3 a h).2⟩⟩
  have hcs : k = 0 ∨ k = 1 ∨ k = 2 := by omega
  simp only [go_sem, ↓reduceIte, NA, ND, g5]
  simp only [dactylref23_Maker_Question_b2]
  rcases hcs with rfl | rfl | rfl
  · simp only [go_sem, ↓reduceIte, NB, NE, g0]
    refine gen_call (take_gen ht (m := 3) (by decide)) hl (i := i4) (by simp only [go_sem, old_get_set, hlt]) ?_
    rintro val i5 ⟨x, rfl, hx0, hx1⟩
    have hwx : IntKind.i64.wrap (2 + x) = 2 + x := wrap_i64 (by omega) (by omega)
    simp only [go_sem, ↓reduceIte, hlt, old_set_set, hwx]
    refine q_options ht hp hl hlt (n := 2 + x) (by omega) (by omega) (by simp only [go_sem, NB, g0]) (by simp only [go_sem, NB, g5]) (by simp only [go_sem, NB]) (by simp only [go_sem]) ?_
    intro ρ3 i6 o3 o4 w1 w2 op rs hf3 a1 a2 a3 a4 hgo hgr
    have k0 : ρ3 0 = .ptr o v 0 := by rw [hf3 0 (by decide)]; simp only [go_sem, NB, g0]
    have k4 : ρ3 4 = .ptr H.length 1 0 := by rw [hf3 4 (by decide)]; simp only [go_sem, NB, g4]
    have k5 : ρ3 5 = .ptr (H.length + 1) 1 0 := by rw [hf3 5 (by decide)]; simp only [go_sem, NB, g5]
    have k7 : ρ3 7 = vi (2 + x) := by rw [hf3 7 (by decide)]; simp only [go_sem, NB]
    obtain ⟨f2, l2, o3', m1, m2, m3⟩ := hgo.lend (dataLL_map data_str _)
    obtain ⟨f3, l3, o4', n1, n2, n3⟩ := hgr.lend (dataLL_map data_str _)
    simp only [go_sem, ↓reduceIte, NB, NE, k0, k7]
    refine gen_call (take_gen ht (m := 2 + x) (by omega)) hl (i := i6) (by simp only [go_sem, old_get_set, hlt]) ?_
    rintro val i7 ⟨y, rfl, hy0, hy1⟩
    obtain ⟨yn, rfl⟩ := Int.eq_ofNat_of_zero_le hy0
    have hdy := fun H => hd yn H (by omega)
    have hdl := dec_len 5 yn (by omega)
    simp only [go_sem, ↓reduceIte, NA, ND, k4, k5, hlt, old_set_set, hdy, hg.cellOk, hgo.cellOk, hgr.cellOk, hl1, hl2, hl3, m1, m2, m3, n1, n2, n3, goneAll_append, addWr_append, objUnder_app, underLL_of_data (dataLL_map data_run _), underLL_of_data (dataLL_map data_str _), underLL_of_data (dataLL_map data_int _)]
    exact ⟨⟨i7, rfl⟩, fin op rs (dec yn) a1 a2 a3 a4 (by omega)⟩
  · simp only [go_sem, ↓reduceIte, NB, NE, IB, g0]
    refine gen_call (take_gen ht (m := 200) (by decide)) hl (i := i4) (by simp only [go_sem, old_get_set, hlt]) ?_
    rintro val i7 ⟨y, rfl, hy0, hy1⟩
    obtain ⟨yn, rfl⟩ := Int.eq_ofNat_of_zero_le hy0
    have hdy := fun H => hd yn H (by omega)
    have hdl := dec_len 5 yn (by omega)
    simp only [go_sem, ↓reduceIte, NA, ND, g4, g5, hlt, old_set_set, hdy, hg.cellOk, hl1, hl2, hl3, objUnder_app, underLL_of_data (dataLL_map data_run _), underLL_of_data (dataLL_map data_int _)]
    exact ⟨⟨i7, rfl⟩, fin [] [] (dec yn) (by simp) (by simp) (by simp) (by simp) (by omega)⟩
  · simp only [go_sem, ↓reduceIte, NB, NE, IB, g0]
    refine gen_call hp hl (i := i4) (by simp only [go_sem, old_get_set, hlt]) ?_
    rintro val i7 ⟨s, rfl, hsl⟩
    simp only [go_sem, ↓reduceIte, NA, ND, g4, g5, hlt, old_set_set, hg.cellOk, hl1, hl2, hl3, objUnder_app, underLL_of_data (dataLL_map data_run _), underLL_of_data (dataLL_map data_int _)]
    exact ⟨⟨i7, rfl⟩, fin [] [] s (by simp) (by simp) (by simp) (by simp) (by omega)⟩
end Go.Proofs.AM
end
section
set_option linter.unusedVariables false
set_option maxRecDepth 8000
namespace Go.Proofs.AM
open Go
theorem eraseKey_len (k : Int) : (eraseKey k).length ≤ 1 := by
  unfold eraseKey
  split
  · simp
  · split
    · simp
    · split <;> simp
theorem eraseQ_ok {q : Question} (h : q.Ok) : (eraseQ q).Ok where
  kind := h.kind
  lenS := h.lenS
  stem := h.stem
  lenO := h.lenO
  options := h.options
  lenN := h.lenN
  needs := h.needs
  key := by have := eraseKey_len q.kind; show (eraseKey q.kind).length ≤ 1000; omega
  points := ⟨by show (-9223372036854775808 : Int) ≤ 0; decide, by show (0 : Int) ≤ 9223372036854775807; decide⟩
  lenR := by show (List.replicate q.reasons.length ([] : Str)).length ≤ 16; rw [List.length_replicate]; exact h.lenR
  reasons := by
    intro s hs
    have hs' : s ∈ List.replicate q.reasons.length ([] : Str) := hs
    rw [(List.mem_replicate.1 hs').2]
    show (0 : Nat) ≤ 1000; omega
theorem eraseItem_ok {x : Item} (h : x.Ok) : (eraseItem x).Ok where
  name := h.name
  lenB := h.lenB
  blocks := h.blocks
  lenF := h.lenF
  facts := h.facts
  lenA := by show (x.ask.map eraseQ).length ≤ 16; rw [List.length_map]; exact h.lenA
  ask := by
    intro q hq
    have hq' : q ∈ x.ask.map eraseQ := hq
    obtain ⟨q0, h0, rfl⟩ := List.mem_map.1 hq'
    exact eraseQ_ok (h.ask q0 h0)
theorem eraseExam_ok {x : Exam} (h : x.Ok) : (eraseExam x).Ok where
  title := h.title
  lenI := by show (x.items.map eraseItem).length ≤ 16; rw [List.length_map]; exact h.lenI
  items := by
    intro q hq
    have hq' : q ∈ x.items.map eraseItem := hq
    obtain ⟨q0, h0, rfl⟩ := List.mem_map.1 hq'
    exact eraseItem_ok (h.items q0 h0)
theorem twinKey_len (n : Int) {q : Question} (h : q.Ok) : (twinKey n q).length ≤ 1000 := by
  have hl := h.lenO
  unfold twinKey
  split
  · have := dec_len 5 (restN n ((max 1 q.options.length : Nat) : Int)) (restN_small (by omega) (by omega)); omega
  · split
    · have := dec_len 5 (restN n 1000) (restN_small (by decide) (by decide)); omega
    · split
      · have := dec_len 5 (restN n 1000) (restN_small (by decide) (by decide)); simp only [List.length_cons]; omega
      · simp
theorem twinPoints_ok (n p : Int) : 0 ≤ twinPoints n p ∧ twinPoints n p < 101 := by
  unfold twinPoints
  exact ⟨by omega, restN_lt (by decide)⟩
theorem twinQ_ok (n : Int) {q : Question} (h : q.Ok) : (twinQ n q).Ok where
  kind := h.kind
  lenS := h.lenS
  stem := h.stem
  lenO := h.lenO
  options := h.options
  lenN := h.lenN
  needs := h.needs
  key := twinKey_len n h
  points := by have := twinPoints_ok n q.points; exact ⟨by show -9223372036854775808 ≤ twinPoints n q.points; omega, by show twinPoints n q.points ≤ 9223372036854775807; omega⟩
  lenR := by show (q.reasons.mapIdx fun j _ => twinReason n j).length ≤ 16; rw [List.length_mapIdx]; exact h.lenR
  reasons := by
    intro s hs
    have hs' : s ∈ q.reasons.mapIdx fun j _ => twinReason n j := hs
    obtain ⟨i, hi, rfl⟩ := List.mem_mapIdx.1 hs'
    have := dec_len 5 (restN (IntKind.i64.wrap (n + i)) 1000) (restN_small (by decide) (by decide))
    show (twinReason n i).length ≤ 1000
    unfold twinReason
    simp only [List.length_cons]; omega
theorem twinItem_ok (n : Int) {x : Item} (h : x.Ok) : (twinItem n x).Ok where
  name := h.name
  lenB := h.lenB
  blocks := h.blocks
  lenF := h.lenF
  facts := h.facts
  lenA := by show (x.ask.map (twinQ n)).length ≤ 16; rw [List.length_map]; exact h.lenA
  ask := by
    intro q hq
    have hq' : q ∈ x.ask.map (twinQ n) := hq
    obtain ⟨q0, h0, rfl⟩ := List.mem_map.1 hq'
    exact twinQ_ok n (h.ask q0 h0)
theorem twinExam_ok (n : Int) {x : Exam} (h : x.Ok) : (twinExam n x).Ok where
  title := h.title
  lenI := by show (x.items.map (twinItem n)).length ≤ 16; rw [List.length_map]; exact h.lenI
  items := by
    intro q hq
    have hq' : q ∈ x.items.map (twinItem n) := hq
    obtain ⟨q0, h0, rfl⟩ := List.mem_map.1 hq'
    exact twinItem_ok n (h.items q0 h0)
theorem erase_erase (x : Exam) : eraseExam (eraseExam x) = eraseExam x := by
  unfold eraseExam
  simp only [List.map_map]
  congr 1
  apply List.map_congr_left
  intro i _
  simp only [Function.comp, eraseItem, List.map_map]
  congr 1
  apply List.map_congr_left
  intro q _
  simp only [Function.comp, eraseQ, List.length_replicate]
theorem erase_twin (n : Int) (x : Exam) : eraseExam (twinExam n x) = eraseExam x := by
  unfold eraseExam twinExam
  simp only [List.map_map]
  congr 1
  apply List.map_congr_left
  intro i _
  simp only [Function.comp, eraseItem, twinItem, List.map_map]
  congr 1
  apply List.map_congr_left
  intro q _
  simp only [Function.comp, eraseQ, twinQ, List.length_mapIdx]
theorem twinPoints_ne (n p : Int) : twinPoints n p ≠ p := by
  intro h
  have hp := twinPoints_ok n p
  rw [h] at hp
  have hr : ((restN n 100 : Nat) : Int) < 100 := restN_lt (by decide)
  have hr0 : (0 : Int) ≤ (restN n 100 : Nat) := by omega
  unfold twinPoints at h
  rw [wrap_i64 (n := p + 1) (by omega) (by omega), wrap_i64 (by omega) (by omega)] at h
  have hc := restN_cast (n := p + 1 + (restN n 100 : Nat)) (b := 101) (by decide)
  rw [← hc] at h
  have e1 : (p + 1 + (restN n 100 : Nat)).tmod 101 = (p + 1 + (restN n 100 : Nat)) % 101 := Int.tmod_eq_emod_of_nonneg (by omega)
  rw [e1] at h
  have e2 : ((p + 1 + (restN n 100 : Nat)) % 101 + 101).tmod 101 = ((p + 1 + (restN n 100 : Nat)) % 101 + 101) % 101 := Int.tmod_eq_emod_of_nonneg (by
    have := Int.emod_nonneg (p + 1 + (restN n 100 : Nat)) (b := 101) (by decide); omega)
  rw [e2] at h
  omega
theorem twin_ne (n : Int) {x : Exam} {i : Item} {q : Question} (hi : i ∈ x.items) (hq : q ∈ i.ask) : twinExam n x ≠ x := by
  intro h
  have h1 : x.items.map (twinItem n) = x.items := congrArg Exam.items h
  have key : ∀ {α : Type} {f : α → α} {l : List α}, l.map f = l → ∀ a ∈ l, f a = a := by
    intro α f l
    induction l with
    | nil => intro _ a ha; cases ha
    | cons b r ih =>
      intro h a ha
      simp only [List.map_cons, List.cons.injEq] at h
      rcases List.mem_cons.1 ha with rfl | ha
      · exact h.1
      · exact ih h.2 a ha
  have h2 := key h1 i hi
  have h3 : i.ask.map (twinQ n) = i.ask := congrArg Item.ask h2
  have h4 := key h3 q hq
  exact twinPoints_ne n q.points (congrArg Question.points h4)
end Go.Proofs.AM
end
section
open Nat renaming reduceBEq → NB, reduceAdd → NA, reduceSub → NS, reduceMul → NM, reduceLT → NL, reduceLeDiff → ND, reduceEqDiff → NE
open Int renaming reduceLT → IL, reduceLE → ID, reduceToNat → IT, reduceEq → IE, reduceBEq → IB, reduceBNe → IN, reduceAdd → IA, reduceSub → IS, reduceNeg → IM
open Bool renaming not_true → BT, not_false → BF
set_option linter.unusedVariables false
set_option maxRecDepth 8000
namespace Go.Proofs.AM
open Go
def dactylref23_spoiltQuestion_b0 (g : String → Nat) : ACode := .block 0 (.seq (.region false [⟨some 11, .bin .eql .no (.tmp 8) (.const (.int .i64 0)), none, []⟩,⟨some 10, .mov (.tmp 11), none, [0]⟩]) <| .cond (.tmp 10) (.region false [⟨some 12, .mov (.tmp 2), none, []⟩,⟨some 13, .callv (.const (.fn (g "dactyl/dactylref01.Around") [] [])) [(.tmp 12), (.const (.int .i64 5))], none, [0]⟩,⟨some 14, .bin .sub .no (.tmp 13) (.const (.int .i64 1)), none, [1, 0]⟩,⟨some 15, .fa 0 (.tmp 3), none, [2, 1, 0]⟩,⟨none, .store 1 (.tmp 15) (.tmp 14), none, [3, 2, 1, 0]⟩]) (.seq (.region false [⟨some 17, .bin .eql .no (.tmp 8) (.const (.int .i64 1)), none, []⟩,⟨some 16, .mov (.tmp 17), none, [0]⟩]) <| .cond (.tmp 16) (.region false [⟨some 18, .bsl 1 [(.str [])] 0 [], none, []⟩,⟨some 19, .fa 2 (.tmp 3), none, []⟩,⟨some 20, .load 1 false (.tmp 19), none, [1]⟩,⟨some 21, .app 1 16 (.tmp 18) (.tmp 20), none, [0, 2, 1]⟩,⟨some 22, .bsl 1 [(.str [])] 1 [(0, (.const (.str [109, 111, 114, 101])))], none, []⟩,⟨some 23, .app 1 16 (.tmp 21) (.tmp 22), none, [4, 3, 0, 2, 1]⟩,⟨some 24, .fa 2 (.tmp 3), none, [5, 4, 3, 0, 2, 1]⟩,⟨none, .store 1 (.tmp 24) (.tmp 23), none, [6, 5, 4, 3, 0, 2, 1]⟩]) (.seq (.region false [⟨some 26, .bin .eql .no (.tmp 8) (.const (.int .i64 2)), none, []⟩,⟨some 25, .mov (.tmp 26), none, [0]⟩]) <| .cond (.tmp 25) (.region false [⟨some 27, .bsl 1 [(.int .i64 0)] 0 [], none, []⟩,⟨some 28, .fa 3 (.tmp 3), none, []⟩,⟨some 29, .load 1 false (.tmp 28), none, [1]⟩,⟨some 30, .app 1 8 (.tmp 27) (.tmp 29), none, [0, 2, 1]⟩,⟨some 31, .mov (.tmp 2), none, []⟩,⟨some 32, .callv (.const (.fn (g "dactyl/dactylref01.Around") [] [])) [(.tmp 31), (.const (.int .i64 10))], none, [4, 3, 0, 2, 1]⟩,⟨some 33, .bin .sub .no (.tmp 32) (.const (.int .i64 1)), none, [5, 4, 3, 0, 2, 1]⟩,⟨some 34, .bsl 1 [(.int .i64 0)] 1 [(0, (.tmp 33))], none, [6, 5, 4, 3, 0, 2, 1]⟩,⟨some 35, .app 1 8 (.tmp 30) (.tmp 34), none, [7, 6, 5, 4, 3, 0, 2, 1]⟩,⟨some 36, .fa 3 (.tmp 3), none, [8, 7, 6, 5, 4, 3, 0, 2, 1]⟩,⟨none, .store 1 (.tmp 36) (.tmp 35), none, [9, 8, 7, 6, 5, 4, 3, 0, 2, 1]⟩]) (.seq (.region false [⟨some 38, .bin .eql .no (.tmp 8) (.const (.int .i64 3)), none, []⟩,⟨some 37, .mov (.tmp 38), none, [0]⟩]) <| .cond (.tmp 37) (.region false [⟨some 39, .bsl 1 [(.str [])] 4 [(0, (.const (.str []))), (1, (.const (.str [127]))), (2, (.const (.str [107, 101, 121]))), (3, (.const (.str [97, 32, 107, 101, 121, 32, 116, 104, 97, 116, 32, 104, 97, 115, 32, 109, 111, 114, 101, 32, 116, 104, 97, 110, 32, 102, 111, 114, 116, 121, 32, 98, 121, 116, 101, 115, 32, 105, 110, 32, 97, 108, 108])))], none, []⟩,⟨some 40, .mov (.tmp 2), none, []⟩,⟨some 41, .callv (.const (.fn (g "dactyl/dactylref01.Around") [] [])) [(.tmp 40), (.const (.int .i64 4))], none, [1]⟩,⟨some 42, .iaV (.tmp 39) (.tmp 41) 1, none, [0, 2, 1]⟩,⟨some 43, .load 1 false (.tmp 42), none, [3, 0, 2, 1]⟩,⟨some 44, .fa 4 (.tmp 3), none, [4, 3, 0, 2, 1]⟩,⟨none, .store 1 (.tmp 44) (.tmp 43), none, [5, 4, 3, 0, 2, 1]⟩]) (.seq (.region false [⟨some 46, .bin .eql .no (.tmp 8) (.const (.int .i64 4)), none, []⟩,⟨some 45, .mov (.tmp 46), none, [0]⟩]) <| .cond (.tmp 45) (.region false [⟨some 47, .mov (.tmp 2), none, []⟩,⟨some 48, .callv (.const (.fn (g "dactyl/dactylref01.Around") [] [])) [(.tmp 47), (.const (.int .i64 103))], none, [0]⟩,⟨some 49, .bin .sub .no (.tmp 48) (.const (.int .i64 1)), none, [1, 0]⟩,⟨some 50, .fa 5 (.tmp 3), none, [2, 1, 0]⟩,⟨none, .store 1 (.tmp 50) (.tmp 49), none, [3, 2, 1, 0]⟩]) (.region false [⟨some 9, .fa 1 (.tmp 3), none, []⟩,⟨none, .store 1 (.tmp 9) (.const (.sl true [])), none, [0]⟩]))))))
def dactylref23_spoiltQuestion (g : String → Nat) : AFn := ⟨52, [3, 6, 21, 23, 30, 35], [.cell 6 7 true],
  .seq (.region false [⟨some 3, .box 7 (.tmp 0), none, []⟩,
    ⟨some 6, .alloc [(.int .i64 0), (.sl true []), (.sl true []), (.sl true []), (.str []), (.int .i64 0), (.sl true [])], none, []⟩]) <|
  .seq (.seq (.region false [⟨some 7, .mov (.tmp 1), none, []⟩,
    ⟨some 8, .callv (.const (.fn (g "dactyl/dactylref01.Around") [] [])) [(.tmp 7), (.const (.int .i64 6))], none, [0]⟩]) <|
  dactylref23_spoiltQuestion_b0 g) <|
  .seq (.region false [⟨some 51, .load 7 true (.tmp 3), none, []⟩,
    ⟨none, .store 7 (.tmp 6) (.tmp 51), none, [0]⟩]) <|
  .ret⟩
theorem around_sub {n m c : Int} (hn : IntOk n) (hm : 1 ≤ m) (hm2 : m ≤ 1000) (hc0 : 0 ≤ c) (hc : c ≤ 10) : IntKind.i64.wrap (around n m - c) = around n m - c ∧ IntOk (around n m - c) := by
  obtain ⟨h1, h2⟩ := around_ok hn hm
  exact ⟨wrap_i64 (by omega) (by omega), by omega, by omega⟩
theorem app_ok {α : Type} {P : α → Prop} {l : List α} {a : α} (h : ∀ x ∈ l, P x) (ha : P a) : ∀ x ∈ l ++ [a], P x := by
  intro x hx
  rcases List.mem_append.1 hx with hx | hx
  · exact h x hx
  · have : x = a := by simpa using hx
    subst this
    exact ha
theorem app_len {α : Type} {l : List α} {a : α} {n : Nat} (h : l.length ≤ n) : (l ++ [a]).length ≤ n + 1 := by simpa using h
structure QSlack (q : Question) : Prop where
  opts : q.options.length ≤ 15
  needs : q.needs.length ≤ 15
  stem : ∀ r ∈ q.stem, r.text.length ≤ 60
theorem roomy_of {n b : Nat} (h1 : n ≤ 100) (h2 : b ≤ 1000) : roomy n b = true := by
  unfold roomy
  have : n * (b + 1) ≤ 100 * 1001 := Nat.mul_le_mul h1 (by omega)
  simp
  omega
set_option maxHeartbeats 3200000 in
theorem spoiltQ_spec {A : AProg} {g : String → Nat} (h : Has A g "dactyl/dactylref23.spoiltQuestion" (dactylref23_spoiltQuestion g)) (ha : SpecAround A g) {q : Question} (hq : q.Ok) (hs : QSlack q) {how by' : Int} (hby : IntOk by') (H : List AObj) :
    ∃ v H' wr, callI A (g "dactyl/dactylref23.spoiltQuestion") [.agg (encQ q), vi how, vi by'] H = some (v, H', wr) ∧ (H' = H ∧ wr = [] ∧ ∃ q' : Question, v = .agg (encQ q') ∧ q'.Ok) := by
  refine h.callEx (by simp [dactylref23_spoiltQuestion]) (by kernel_rfl) ?_
  have hl1 := hs.opts
  have hl2 := hs.needs
  have fin : ∀ q1 : Question, q1.Ok → ∀ v : AV, v = .agg (encQ q1) → ∃ q2 : Question, v = .agg (encQ q2) ∧ q2.Ok := fun q1 h v e => ⟨q1, e, h⟩
  simp only [dactylref23_spoiltQuestion, dactylref23_spoiltQuestion_b0]
  have h5 := around_sub (c := 1) hby (m := 5) (by decide) (by decide) (by decide) (by decide)
  have h10 := around_sub (c := 1) hby (m := 10) (by decide) (by decide) (by decide) (by decide)
  have h103 := around_sub (c := 1) hby (m := 103) (by decide) (by decide) (by decide) (by decide)
  simp only [go_sem, ↓reduceIte, NB, NA, NL, NE, encQ, ha how]
  refine branch_intro (fun hb => ?_) (fun hb => ?_)
  · simp only [go_sem, ↓reduceIte, NB, NA, ND, NE, ha by', h5.1, underLL_of_data (dataLL_map data_run _), underLL_of_data (dataLL_map data_str _), underLL_of_data (dataLL_map data_int _)]
    exact fin { q with kind := around by' 5 - 1 } { hq with kind := h5.2 } _ rfl
  simp only [go_sem, NB]
  refine branch_intro (fun hb => ?_) (fun hb => ?_)
  · have hm : ∀ l : List Str, l.map encStr ++ [[.str [109, 111, 114, 101]]] = (l ++ [[109, 111, 114, 101]]).map encStr := fun l => by simp [encStr]
    have ho : { q with options := q.options ++ [[109, 111, 114, 101]] : Question }.Ok := { hq with lenO := app_len hl1, options := app_ok hq.options (by decide) }
    cases hoe : q.options with
    | nil =>
      rw [hoe] at ho
      simp only [go_sem, ↓reduceIte, NB, NA, NL, ND, NE, BT, roomy_of, underLL_of_data (dataLL_map data_run _), underLL_of_data (dataLL_map data_str _), underLL_of_data (dataLL_map data_int _)]
      exact fin _ ho _ rfl
    | cons a r =>
      rw [hoe] at ho hl1
      have hr1 : roomy (r.length + 1) 16 = true := roomy_of (by simp at hl1 ⊢; omega) (by decide)
      have hr2 : roomy (r.length + 1 + 1) 16 = true := roomy_of (by simp at hl1 ⊢; omega) (by decide)
      simp only [go_sem, ↓reduceIte, NB, NA, NL, ND, NE, BT, hr1, hr2, hm, encStr, allStill_rows (dataLL_map data_str _), underLL_of_data (dataLL_map data_run _), underLL_of_data (dataLL_map data_str _), underLL_of_data (dataLL_map data_int _)]
      exact fin _ ho _ (by simp [encQ, encStr])
  simp only [go_sem, NB]
  refine branch_intro (fun hb => ?_) (fun hb => ?_)
  · have hm : ∀ (l : List Int) (n : Int), l.map encInt ++ [[vi n]] = (l ++ [n]).map encInt := fun l n => by simp [encInt]
    have ho : { q with needs := q.needs ++ [around by' 10 - 1] : Question }.Ok := { hq with lenN := app_len hl2, needs := app_ok hq.needs h10.2 }
    cases hoe : q.needs with
    | nil =>
      rw [hoe] at ho
      simp only [go_sem, ↓reduceIte, NB, NA, NL, ND, NE, BT, ha by', h10.1, roomy_of, underLL_of_data (dataLL_map data_run _), underLL_of_data (dataLL_map data_str _)]
      exact fin _ ho _ rfl
    | cons a r =>
      rw [hoe] at ho hl2
      have hr1 : roomy (r.length + 1) 8 = true := roomy_of (by simp at hl2 ⊢; omega) (by decide)
      have hr2 : roomy (r.length + 1 + 1) 8 = true := roomy_of (by simp at hl2 ⊢; omega) (by decide)
      simp only [go_sem, ↓reduceIte, NB, NA, NL, ND, NE, BT, ha by', h10.1, hr1, hr2, hm, encInt, allStill_rows (dataLL_map data_int _), underLL_of_data (dataLL_map data_run _), underLL_of_data (dataLL_map data_str _), underLL_of_data (dataLL_map data_int _)]
      exact fin _ ho _ (by simp [encQ, encInt])
  simp only [go_sem, NB]
  refine branch_intro (fun hb => ?_) (fun hb => ?_)
  · obtain ⟨k1, k2⟩ := around_ok hby (m := 4) (by decide)
    obtain ⟨t, htm, htab⟩ := tabS [[], [127], [107, 101, 121], [97, 32, 107, 101, 121, 32, 116, 104, 97, 116, 32, 104, 97, 115, 32, 109, 111, 114, 101, 32, 116, 104, 97, 110, 32, 102, 111, 114, 116, 121, 32, 98, 121, 116, 101, 115, 32, 105, 110, 32, 97, 108, 108]] k1 k2
    simp only [List.map, encStr] at htab
    have htl : TextOk t := by
      have : ∀ s ∈ ([[], [127], [107, 101, 121], [97, 32, 107, 101, 121, 32, 116, 104, 97, 116, 32, 104, 97, 115, 32, 109, 111, 114, 101, 32, 116, 104, 97, 110, 32, 102, 111, 114, 116, 121, 32, 98, 121, 116, 101, 115, 32, 105, 110, 32, 97, 108, 108]] : List Str), TextOk s := by decide
      exact this t htm
    simp only [go_sem, ↓reduceIte, NB, NA, NL, ND, NE, ha by', k1, htab, underLL_of_data (dataLL_map data_run _), underLL_of_data (dataLL_map data_str _), underLL_of_data (dataLL_map data_int _)]
    exact fin { q with key := t } { hq with key := htl } _ rfl
  simp only [go_sem, NB]
  refine branch_intro (fun hb => ?_) (fun hb => ?_)
  · simp only [go_sem, ↓reduceIte, NB, NA, ND, NE, ha by', h103.1, underLL_of_data (dataLL_map data_run _), underLL_of_data (dataLL_map data_str _), underLL_of_data (dataLL_map data_int _)]
    exact fin { q with points := around by' 103 - 1 } { hq with points := h103.2 } _ rfl
  · simp only [go_sem, ↓reduceIte, NB, NA, ND, underLL_of_data (dataLL_map data_str _), underLL_of_data (dataLL_map data_int _)]
    exact fin { q with stem := [] } { hq with lenS := by simp, stem := by simp } _ rfl
end Go.Proofs.AM
end
