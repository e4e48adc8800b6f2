/- Part 23 of the proof that stands in the last text of this folder (lemmas; no statement of its own). -/
import Derived.Test.YtjomjnkapjgheaaDoorK22
section
open Nat renaming reduceBEq → NB, reduceAdd → NA, reduceSub → NS, reduceMul → NM, reduceLT → NL, reduceLeDiff → ND, reduceEqDiff → NE
open Int renaming reduceLT → IL, reduceLE → ID, reduceToNat → IT, reduceEq → IE, reduceBEq → IB, reduceBNe → IN, reduceAdd → IA, reduceSub → IS, reduceNeg → IM
open Bool renaming not_true → BT, not_false → BF
set_option linter.unusedVariables false
set_option maxRecDepth 8000
namespace Go.Proofs.AM
open Go
def dactylref23_Maker_Block_b0 (g : String → Nat) : ACode := .block 0 (.seq (.region false [⟨some 13, .bin .eql .no (.tmp 8) (.const (.int .i64 0)), none, []⟩,⟨some 12, .mov (.tmp 13), none, [0]⟩]) <| .cond (.tmp 12) (.region false [⟨some 14, .mov (.tmp 0), none, []⟩,⟨some 15, .callv (.const (.fn (g "(*dactyl/dactylref23.Maker).Runs") [] [])) [(.tmp 14)], none, [0]⟩,⟨some 16, .fa 1 (.tmp 5), none, [1, 0]⟩,⟨none, .store 1 (.tmp 16) (.tmp 15), none, [2, 1, 0]⟩]) (.seq (.region false [⟨some 18, .bin .eql .no (.tmp 8) (.const (.int .i64 1)), none, []⟩,⟨some 17, .mov (.tmp 18), none, [0]⟩]) <| .cond (.tmp 17) (.region false [⟨some 19, .mov (.tmp 0), none, []⟩,⟨some 20, .callv (.const (.fn (g "(*dactyl/dactylref23.Maker).Expr") [] [])) [(.tmp 19), (.const (.int .i64 3))], none, [0]⟩,⟨some 21, .fa 2 (.tmp 5), none, [1, 0]⟩,⟨none, .store 3 (.tmp 21) (.tmp 20), none, [2, 1, 0]⟩]) (.seq (.region false [⟨some 23, .bin .eql .no (.tmp 8) (.const (.int .i64 2)), none, []⟩,⟨some 22, .mov (.tmp 23), none, [0]⟩]) <| .cond (.tmp 22) (.region false [⟨some 24, .mov (.tmp 0), none, []⟩,⟨some 25, .callv (.const (.fn (g "(*dactyl/dactylref23.Maker).Sum") [] [])) [(.tmp 24)], none, [0]⟩,⟨some 26, .fa 5 (.tmp 5), none, [1, 0]⟩,⟨none, .store 2 (.tmp 26) (.tmp 25), none, [2, 1, 0]⟩]) (.seq (.region false [⟨some 28, .bin .eql .no (.tmp 8) (.const (.int .i64 3)), none, []⟩,⟨some 27, .mov (.tmp 28), none, [0]⟩]) <| .cond (.tmp 27) (.region false [⟨some 29, .mov (.tmp 0), none, []⟩,⟨some 30, .callv (.const (.fn (g "(*dactyl/dactylref23.Maker).Grid") [] [])) [(.tmp 29)], none, [0]⟩,⟨some 31, .fa 7 (.tmp 5), none, [1, 0]⟩,⟨none, .store 1 (.tmp 31) (.tmp 30), none, [2, 1, 0]⟩]) (.seq (.region false [⟨some 33, .bin .eql .no (.tmp 8) (.const (.int .i64 4)), none, []⟩,⟨some 32, .mov (.tmp 33), none, [0]⟩]) <| .cond (.tmp 32) (.region false [⟨some 34, .mov (.tmp 0), none, []⟩,⟨some 35, .callv (.const (.fn (g "(*dactyl/dactylref23.Maker).Figure") [] [])) [(.tmp 34)], none, [0]⟩,⟨some 36, .fa 8 (.tmp 5), none, [1, 0]⟩,⟨none, .store 3 (.tmp 36) (.tmp 35), none, [2, 1, 0]⟩]) (.seq (.region false [⟨some 38, .bin .eql .no (.tmp 8) (.const (.int .i64 5)), none, []⟩,⟨some 37, .mov (.tmp 38), none, [0]⟩]) <| .cond (.tmp 37) (.region false [⟨some 39, .mov (.tmp 0), none, []⟩,⟨some 40, .callv (.const (.fn (g "(*dactyl/dactylref23.Maker).Melody") [] [])) [(.tmp 39)], none, [0]⟩,⟨some 41, .fa 11 (.tmp 5), none, [1, 0]⟩,⟨none, .store 1 (.tmp 41) (.tmp 40), none, [2, 1, 0]⟩]) (.region false [⟨some 9, .mov (.tmp 0), none, []⟩,⟨some 10, .callv (.const (.fn (g "(*dactyl/dactylref23.Maker).Lines") [] [])) [(.tmp 9)], none, [0]⟩,⟨some 11, .fa 12 (.tmp 5), none, [1, 0]⟩,⟨none, .store 1 (.tmp 11) (.tmp 10), none, [2, 1, 0]⟩])))))))
def dactylref23_Maker_Block (g : String → Nat) : AFn := ⟨43, [4, 5], [.cell 4 13 true],
  .seq (.region false [⟨some 4, .alloc [(.int .i64 0), (.sl true []), (.int .i64 0), (.int .i64 0), (.sl true []), (.int .i64 0), (.sl true []), (.sl true []), (.int .i64 0), (.int .i64 0), (.sl true []), (.sl true []), (.sl true [])], none, []⟩]) <|
  .seq (.region false [⟨some 6, .mov (.tmp 1), none, []⟩,
    ⟨some 7, .build [(.int .i64 0), (.sl true []), (.int .i64 0), (.int .i64 0), (.sl true []), (.int .i64 0), (.sl true []), (.sl true []), (.int .i64 0), (.int .i64 0), (.sl true []), (.sl true []), (.sl true [])] [(0, 1, (.tmp 6))], none, [0]⟩,
    ⟨some 5, .alloc [(.int .i64 0), (.sl true []), (.int .i64 0), (.int .i64 0), (.sl true []), (.int .i64 0), (.sl true []), (.sl true []), (.int .i64 0), (.int .i64 0), (.sl true []), (.sl true []), (.sl true [])], none, []⟩,
    ⟨none, .store 13 (.tmp 5) (.tmp 7), none, [1, 0, 2]⟩]) <|
  .seq (.seq (.region false [⟨some 8, .mov (.tmp 1), none, []⟩]) <|
  dactylref23_Maker_Block_b0 g) <|
  .seq (.region false [⟨some 42, .load 13 true (.tmp 5), none, []⟩,
    ⟨none, .store 13 (.tmp 4) (.tmp 42), none, [0]⟩]) <|
  .ret⟩
abbrev IsFigure (v : AV) : Prop := ∃ (w h : Int) (s : List Shape), v = .agg [vi w, vi h, .sl false (s.map encShape)] ∧ IntOk w ∧ IntOk h ∧ 2 ≤ s.length ∧ s.length ≤ 4 ∧ ∀ a ∈ s, a.Ok
structure Slack (b : Block) : Prop where
  runs : b.runs.length ≤ 3
  sumA : b.sumA.length ≤ 3
  size : esize b.expr ≤ 900
  kids : ∀ op n ks, b.expr = .mk op n ks → ks.length ≤ 2
theorem slack_of {b : Block} (h1 : b.runs.length ≤ 3) (h2 : b.sumA.length ≤ 3) (h3 : b.expr = .mk 0 0 []) : Slack b :=
  ⟨h1, h2, by rw [h3]; decide, fun op n ks e => by rw [h3] at e; cases e; decide⟩
theorem slack_deep {b : Block} (h1 : b.runs.length ≤ 3) (h2 : b.sumA.length ≤ 3) {e : Expr} (h3 : b.expr = e) (hd : Deep 4 e) : Slack b :=
  ⟨h1, h2, by rw [h3]; have := hd.ok.2; omega, fun op n ks h => by rw [h3] at h; subst h; cases hd; assumption⟩
structure MBlock (b : Block) : Prop where
  ok : b.Ok
  lens : b.shapes.length ≤ 4 ∧ b.grid.length ≤ 3 ∧ b.hands.length ≤ 2 ∧ b.lines.length ≤ 3
  figure : b.kind = 4 → 2 ≤ b.shapes.length
  grid : b.kind = 3 → 1 ≤ b.grid.length ∧ ∀ r ∈ b.grid, GRowOk r
  music : b.kind = 5 → 1 ≤ b.hands.length ∧ ∀ h ∈ b.hands, MHand h
  listing : b.kind = 6 → 1 ≤ b.lines.length
  slack : Slack b
abbrev IsBlock (k : Int) (v : AV) : Prop := ∃ b : Block, v = .agg (encBlock b) ∧ b.kind = k ∧ MBlock b
def noBlock (k : Int) : Block := ⟨k, [], .mk 0 0 [], 0, [], [], 0, 0, [], [], []⟩
theorem zero_ok : IntOk 0 := by constructor <;> decide
theorem noExpr_ok : (Expr.mk 0 0 []).Ok := .mk _ _ _ zero_ok zero_ok (by simp) (by simp)
theorem noBlock_ok {k : Int} (hk : IntOk k) : (noBlock k).Ok := by
  constructor <;> first | exact hk | exact zero_ok | exact noExpr_ok | (simp [noBlock, esize, esizes]; done)
set_option maxHeartbeats 3200000 in
theorem block_gen {A : AProg} {g : String → Nat} (h : Has A g "(*dactyl/dactylref23.Maker).Block" (dactylref23_Maker_Block g))
    (hr : GenSpec A (g "(*dactyl/dactylref23.Maker).Runs") [] IsRuns) (he : GenSpec A (g "(*dactyl/dactylref23.Maker).Expr") [vi 3] (IsExpr 4)) (hs : GenSpec A (g "(*dactyl/dactylref23.Maker).Sum") [] IsSum)
    (hg : GenSpec A (g "(*dactyl/dactylref23.Maker).Grid") [] IsGrid) (hf : GenSpec A (g "(*dactyl/dactylref23.Maker).Figure") [] IsFigure) (hm : GenSpec A (g "(*dactyl/dactylref23.Maker).Melody") [] IsMelody)
    (hn : GenSpec A (g "(*dactyl/dactylref23.Maker).Lines") [] IsLines) {k : Int} (hk0 : 0 ≤ k) (hk1 : k < 7) : GenSpec A (g "(*dactyl/dactylref23.Maker).Block") [vi k] (IsBlock k) := by
  refine h.gen (by simp [dactylref23_Maker_Block]) (fun n => by kernel_rfl) ?_
  intro l i o v H hl hlt ho
  have hko : IntOk k := small_ok hk0 (by omega)
  have hcs : k = 0 ∨ k = 1 ∨ k = 2 ∨ k = 3 ∨ k = 4 ∨ k = 5 ∨ k = 6 := by omega
  simp only [dactylref23_Maker_Block, dactylref23_Maker_Block_b0]
  rcases hcs with rfl | rfl | rfl | rfl | rfl | rfl | rfl
  · simp only [go_sem, ↓reduceIte, NB, NA, NL, ND, NE]
    refine gen_call hr hl (i := i) (by simp only [go_sem, old_get, hlt, ho]) ?_
    rintro val i1 ⟨r, rfl, hr1, hr2, hr3⟩
    simp only [go_sem, ↓reduceIte, NA, ND, hlt, old_set, objUnder_app, underLL_of_data (dataLL_map data_run _), underLL_of_data (dataLL_map data_int _)]
    exact ⟨⟨i1, rfl⟩, { noBlock 0 with runs := r }, by simp [encBlock, noBlock, encExpr, encExprs], rfl, { noBlock_ok hko with lenR := by show r.length ≤ 16; omega, runs := fun a h => (hr3 a h).1 }, by simp [noBlock], fun hh => absurd (show (0 : Int) = 4 from hh) (by decide), fun hh => absurd (show (0 : Int) = 3 from hh) (by decide), fun hh => absurd (show (0 : Int) = 5 from hh) (by decide), fun hh => absurd (show (0 : Int) = 6 from hh) (by decide), slack_of hr2 (by simp [noBlock]) rfl⟩
  · simp only [go_sem, ↓reduceIte, NB, NA, NL, ND, NE, IB]
    refine gen_call he hl (i := i) (by simp only [go_sem, old_get, hlt, ho]) ?_
    rintro val i1 ⟨⟨op, n, kids⟩, rfl, hd⟩
    simp only [encExpr, encExprs_map']
    simp only [go_sem, ↓reduceIte, NA, ND, hlt, old_set, objUnder_app, underLL_of_data (dataLL_map data_expr _), underLL_of_data (dataLL_map data_int _)]
    exact ⟨⟨i1, rfl⟩, { noBlock 1 with expr := .mk op n kids }, by simp [encBlock, noBlock, encExpr, encExprs_map'], rfl, { noBlock_ok hko with expr := hd.ok.1, size := by have := hd.ok.2; show esize (.mk op n kids) ≤ 1000; omega }, by simp [noBlock], fun hh => absurd (show (1 : Int) = 4 from hh) (by decide), fun hh => absurd (show (1 : Int) = 3 from hh) (by decide), fun hh => absurd (show (1 : Int) = 5 from hh) (by decide), fun hh => absurd (show (1 : Int) = 6 from hh) (by decide), slack_deep (by simp [noBlock]) (by simp [noBlock]) rfl hd⟩
  · simp only [go_sem, ↓reduceIte, NB, NA, NL, ND, NE, IB]
    refine gen_call hs hl (i := i) (by simp only [go_sem, old_get, hlt, ho]) ?_
    rintro val i1 ⟨op, a, rfl, ha1, ha2, ha3⟩
    simp only [go_sem, ↓reduceIte, NA, ND, hlt, old_set, objUnder_app, underLL_of_data (dataLL_map data_int _)]
    exact ⟨⟨i1, rfl⟩, { noBlock 2 with sumOp := op, sumA := a }, by simp [encBlock, noBlock, encExpr, encExprs], rfl, { noBlock_ok hko with sumOp := ha1, lenA := by show a.length ≤ 16; omega, sumA := ha3 }, by simp [noBlock], fun hh => absurd (show (2 : Int) = 4 from hh) (by decide), fun hh => absurd (show (2 : Int) = 3 from hh) (by decide), fun hh => absurd (show (2 : Int) = 5 from hh) (by decide), fun hh => absurd (show (2 : Int) = 6 from hh) (by decide), slack_of (by simp [noBlock]) ha2 rfl⟩
  · simp only [go_sem, ↓reduceIte, NB, NA, NL, ND, NE, IB]
    refine gen_call hg hl (i := i) (by simp only [go_sem, old_get, hlt, ho]) ?_
    rintro val i1 ⟨r, rfl, hr1, hr2, hr3⟩
    simp only [go_sem, ↓reduceIte, NA, ND, hlt, old_set, objUnder_app, underLL_of_data (dataLL_map data_row _), underLL_of_data (dataLL_map data_int _)]
    exact ⟨⟨i1, rfl⟩, { noBlock 3 with grid := r }, by simp [encBlock, noBlock, encExpr, encExprs], rfl, { noBlock_ok hko with lenG := by show r.length ≤ 16; omega, grid := fun x hx => ⟨by have := (hr3 x hx).2.1; omega, fun s hs => by have := (hr3 x hx).2.2 s hs; show s.length ≤ 1000; omega⟩ }, by simp [noBlock]; omega, fun hh => absurd (show (3 : Int) = 4 from hh) (by decide), fun _ => ⟨hr1, hr3⟩, fun hh => absurd (show (3 : Int) = 5 from hh) (by decide), fun hh => absurd (show (3 : Int) = 6 from hh) (by decide), slack_of (by simp [noBlock]) (by simp [noBlock]) rfl⟩
  · simp only [go_sem, ↓reduceIte, NB, NA, NL, ND, NE, IB]
    refine gen_call hf hl (i := i) (by simp only [go_sem, old_get, hlt, ho]) ?_
    rintro val i1 ⟨w, h, s, rfl, hw, hh, hs1, hs2, hs3⟩
    simp only [go_sem, ↓reduceIte, NA, ND, hlt, old_set, objUnder_app, underLL_of_data (dataLL_map data_shape _), underLL_of_data (dataLL_map data_int _)]
    exact ⟨⟨i1, rfl⟩, { noBlock 4 with w := w, h := h, shapes := s }, by simp [encBlock, noBlock, encExpr, encExprs], rfl, { noBlock_ok hko with w := hw, h := hh, lenS := by show s.length ≤ 16; omega, shapes := hs3 }, by simp [noBlock]; omega, fun _ => hs1, fun hh => absurd (show (4 : Int) = 3 from hh) (by decide), fun hh => absurd (show (4 : Int) = 5 from hh) (by decide), fun hh => absurd (show (4 : Int) = 6 from hh) (by decide), slack_of (by simp [noBlock]) (by simp [noBlock]) rfl⟩
  · simp only [go_sem, ↓reduceIte, NB, NA, NL, ND, NE, IB]
    refine gen_call hm hl (i := i) (by simp only [go_sem, old_get, hlt, ho]) ?_
    rintro val i1 ⟨m, rfl, hm1, hm2, hm3⟩
    simp only [go_sem, ↓reduceIte, NA, ND, hlt, old_set, objUnder_app, underLL_of_data (dataLL_map data_hand _), underLL_of_data (dataLL_map data_int _)]
    exact ⟨⟨i1, rfl⟩, { noBlock 5 with hands := m }, by simp [encBlock, noBlock, encExpr, encExprs], rfl, { noBlock_ok hko with lenH := by show m.length ≤ 16; omega, hands := fun x hx => ⟨by have := (hm3 x hx).2.1; omega, fun y hy => ⟨by have := ((hm3 x hx).2.2 y hy).2.1; omega, ((hm3 x hx).2.2 y hy).2.2⟩⟩ }, by simp [noBlock]; omega, fun hh => absurd (show (5 : Int) = 4 from hh) (by decide), fun hh => absurd (show (5 : Int) = 3 from hh) (by decide), fun _ => ⟨hm1, hm3⟩, fun hh => absurd (show (5 : Int) = 6 from hh) (by decide), slack_of (by simp [noBlock]) (by simp [noBlock]) rfl⟩
  · simp only [go_sem, ↓reduceIte, NB, NA, NL, ND, NE, IB]
    refine gen_call hn hl (i := i) (by simp only [go_sem, old_get, hlt, ho]) ?_
    rintro val i1 ⟨r, rfl, hr1, hr2, hr3⟩
    simp only [go_sem, ↓reduceIte, NA, hlt, old_set, objUnder_app, underLL_of_data (dataLL_map data_str _), underLL_of_data (dataLL_map data_int _)]
    exact ⟨⟨i1, rfl⟩, { noBlock 6 with lines := r }, by simp [encBlock, noBlock, encExpr, encExprs], rfl, { noBlock_ok hko with lenL := by show r.length ≤ 16; omega, lines := fun s hs => by have := hr3 s hs; show s.length ≤ 1000; omega }, by simp [noBlock]; omega, fun hh => absurd (show (6 : Int) = 4 from hh) (by decide), fun hh => absurd (show (6 : Int) = 3 from hh) (by decide), fun hh => absurd (show (6 : Int) = 5 from hh) (by decide), fun _ => hr1, slack_of (by simp [noBlock]) (by simp [noBlock]) rfl⟩
end Go.Proofs.AM
end
section
open Nat renaming reduceBEq → NB, reduceAdd → NA, reduceSub → NS, reduceMul → NM, reduceLT → NL, reduceLeDiff → ND, reduceEqDiff → NE
open Int renaming reduceLT → IL, reduceLE → ID, reduceToNat → IT, reduceEq → IE, reduceBEq → IB, reduceBNe → IN, reduceAdd → IA, reduceSub → IS, reduceNeg → IM
open Bool renaming not_true → BT, not_false → BF
set_option linter.unusedVariables false
set_option maxRecDepth 8000
namespace Go.Proofs.AM
open Go
abbrev dactylref23_Maker_Fact_d0 (g : String → Nat) : List AOper := [⟨some 20, .bsl 1 [(.int .i64 0)] 2 [(0, (.const (.int .i64 3))), (1, (.const (.int .i64 4)))], none, []⟩,⟨some 21, .mov (.tmp 0), none, []⟩,⟨some 22, .callv (.const (.fn (g "(*dactyl/dactylref23.Maker).Take") [] [])) [(.tmp 21), (.const (.int .i64 2))], none, [1]⟩,⟨some 23, .iaV (.tmp 20) (.tmp 22) 1, none, [0, 2, 1]⟩,⟨some 24, .load 1 false (.tmp 23), none, [3, 0, 2, 1]⟩,⟨some 25, .mov (.tmp 2), none, []⟩,⟨some 26, .mov (.tmp 8), none, []⟩,⟨some 27, .mov (.tmp 8), none, []⟩,⟨some 28, .bin .add .no (.tmp 27) (.const (.int .i64 1)), none, [7]⟩,⟨some 29, .mov (.tmp 0), none, []⟩,⟨some 30, .mov (.tmp 7), none, []⟩,⟨some 31, .bin .sub .no (.tmp 30) (.const (.int .i64 1)), none, [10]⟩,⟨some 32, .callv (.const (.fn (g "(*dactyl/dactylref23.Maker).Take") [] [])) [(.tmp 29), (.tmp 31)], none, [9, 11, 10, 2, 1]⟩,⟨some 33, .bin .add .no (.tmp 28) (.tmp 32), none, [8, 7, 12, 9, 11, 10, 2, 1]⟩,⟨some 34, .mov (.tmp 7), none, []⟩,⟨some 35, .bin .rem .no (.tmp 33) (.tmp 34), none, [13, 8, 7, 12, 9, 11, 10, 2, 1, 14]⟩,⟨some 36, .build [(.int .i64 0), (.int .i64 0), (.int .i64 0), (.int .i64 0)] [(0, 1, (.tmp 24)), (1, 1, (.tmp 25)), (2, 1, (.tmp 26)), (3, 1, (.tmp 35))], none, [4, 3, 0, 5, 6, 15, 13, 8, 7, 12, 9, 11, 10, 2, 1, 14]⟩,⟨some 9, .alloc [(.int .i64 0), (.int .i64 0), (.int .i64 0), (.int .i64 0)], none, []⟩,⟨none, .store 4 (.tmp 9) (.tmp 36), none, [16, 4, 3, 0, 5, 6, 15, 13, 8, 7, 12, 9, 11, 10, 2, 1, 14, 17]⟩]
abbrev dactylref23_Maker_Fact_k0 : List Nat := [2, 4, 12, 17]
abbrev dactylref23_Maker_Fact_d1 (g : String → Nat) : List AOper := [⟨some 56, .mov (.tmp 2), none, []⟩,⟨some 57, .mov (.tmp 0), none, []⟩,⟨some 58, .fa 7 (.tmp 4), none, []⟩,⟨some 59, .fa 0 (.tmp 58), none, [2]⟩,⟨some 60, .load 1 false (.tmp 59), none, [3, 2]⟩,⟨some 61, .lenV (.tmp 60), none, [4, 3, 2]⟩,⟨some 62, .callv (.const (.fn (g "(*dactyl/dactylref23.Maker).Take") [] [])) [(.tmp 57), (.tmp 61)], none, [1, 5, 4, 3, 2]⟩,⟨some 63, .mov (.tmp 0), none, []⟩,⟨some 64, .fa 7 (.tmp 4), none, []⟩,⟨some 65, .fa 0 (.tmp 64), none, [8]⟩,⟨some 66, .load 1 false (.tmp 65), none, [9, 8]⟩,⟨some 67, .iaV (.tmp 66) (.const (.int .i64 0)) 1, none, [10, 9, 8]⟩,⟨some 68, .load 1 false (.tmp 67), none, [11, 10, 9, 8]⟩,⟨some 69, .lenV (.tmp 68), none, [12, 11, 10, 9, 8]⟩,⟨some 70, .callv (.const (.fn (g "(*dactyl/dactylref23.Maker).Take") [] [])) [(.tmp 63), (.tmp 69)], none, [7, 13, 12, 11, 10, 9, 8, 6, 1, 5, 4, 3, 2]⟩,⟨some 71, .build [(.int .i64 0), (.int .i64 0), (.int .i64 0), (.int .i64 0)] [(0, 1, (.const (.int .i64 1))), (1, 1, (.tmp 56)), (2, 1, (.tmp 62)), (3, 1, (.tmp 70))], none, [0, 14, 7, 13, 12, 11, 10, 9, 8, 6, 1, 5, 4, 3, 2]⟩,⟨none, .store 4 (.tmp 6) (.tmp 71), none, [15, 0, 14, 7, 13, 12, 11, 10, 9, 8, 6, 1, 5, 4, 3, 2]⟩]
abbrev dactylref23_Maker_Fact_k1 : List Nat := [6, 10, 12]
abbrev dactylref23_Maker_Fact_d2 (g : String → Nat) : List AOper := [⟨some 80, .mov (.tmp 2), none, []⟩,⟨some 81, .mov (.tmp 0), none, []⟩,⟨some 82, .fa 11 (.tmp 4), none, []⟩,⟨some 83, .fa 0 (.tmp 82), none, [2]⟩,⟨some 84, .load 1 false (.tmp 83), none, [3, 2]⟩,⟨some 85, .iaV (.tmp 84) (.const (.int .i64 0)) 1, none, [4, 3, 2]⟩,⟨some 86, .load 1 false (.tmp 85), none, [5, 4, 3, 2]⟩,⟨some 87, .lenV (.tmp 86), none, [6, 5, 4, 3, 2]⟩,⟨some 88, .callv (.const (.fn (g "(*dactyl/dactylref23.Maker).Take") [] [])) [(.tmp 81), (.tmp 87)], none, [1, 7, 6, 5, 4, 3, 2]⟩,⟨some 89, .mov (.tmp 0), none, []⟩,⟨some 90, .fa 11 (.tmp 4), none, []⟩,⟨some 91, .fa 0 (.tmp 90), none, [10]⟩,⟨some 92, .load 1 false (.tmp 91), none, [11, 10]⟩,⟨some 93, .lenV (.tmp 92), none, [12, 11, 10]⟩,⟨some 94, .callv (.const (.fn (g "(*dactyl/dactylref23.Maker).Take") [] [])) [(.tmp 89), (.tmp 93)], none, [9, 13, 12, 11, 10, 8, 1, 7, 6, 5, 4, 3, 2]⟩,⟨some 95, .build [(.int .i64 0), (.int .i64 0), (.int .i64 0), (.int .i64 0)] [(0, 1, (.const (.int .i64 5))), (1, 1, (.tmp 80)), (2, 1, (.tmp 88)), (3, 1, (.tmp 94))], none, [0, 14, 9, 13, 12, 11, 10, 8, 1, 7, 6, 5, 4, 3, 2]⟩,⟨none, .store 4 (.tmp 6) (.tmp 95), none, [15, 0, 14, 9, 13, 12, 11, 10, 8, 1, 7, 6, 5, 4, 3, 2]⟩]
abbrev dactylref23_Maker_Fact_k2 : List Nat := [8, 12]
def dactylref23_Maker_Fact (g : String → Nat) : AFn := ⟨113, [4, 6, 9], [.cell 6 4 true],
  .seq (.region false [⟨some 4, .box 13 (.tmp 1), none, []⟩,
    ⟨some 6, .alloc [(.int .i64 0), (.int .i64 0), (.int .i64 0), (.int .i64 0)], none, []⟩]) <|
  .seq (.seq (.region false [⟨some 10, .fa 0 (.tmp 4), none, []⟩,
    ⟨some 11, .load 1 false (.tmp 10), none, [0]⟩,
    ⟨some 12, .bin .eql .no (.tmp 11) (.const (.int .i64 4)), none, [1, 0]⟩]) <|
  .cond (.tmp 12) (.seq (.region false [⟨some 13, .fa 8 (.tmp 4), none, []⟩,
      ⟨some 14, .fa 2 (.tmp 13), none, [0]⟩,
      ⟨some 15, .load 1 false (.tmp 14), none, [1, 0]⟩,
      ⟨some 16, .lenV (.tmp 15), none, [2, 1, 0]⟩,
      ⟨some 7, .mov (.tmp 16), none, [3, 2, 1, 0]⟩]) <|
    .seq (.region false [⟨some 17, .mov (.tmp 0), none, []⟩,
      ⟨some 18, .mov (.tmp 7), none, []⟩,
      ⟨some 19, .callv (.const (.fn (g "(*dactyl/dactylref23.Maker).Take") [] [])) [(.tmp 17), (.tmp 18)], none, [0, 1]⟩,
      ⟨some 8, .mov (.tmp 19), none, [2, 0, 1]⟩]) <|
    .seq (.region true (dactylref23_Maker_Fact_d0 g)) <|
    .seq (.seq (.region false [⟨some 37, .mov (.tmp 0), none, []⟩,
      ⟨some 38, .callv (.const (.fn (g "(*dactyl/dactylref23.Maker).Take") [] [])) [(.tmp 37), (.const (.int .i64 3))], none, [0]⟩,
      ⟨some 39, .bin .eql .no (.tmp 38) (.const (.int .i64 0)), none, [1, 0]⟩,
      ⟨some 40, .mov (.tmp 39), none, [2, 1, 0]⟩,
      ⟨some 41, .mov (.tmp 8), some (some 40, true), [3, 2, 1, 0]⟩,
      ⟨some 42, .bin .gtr .no (.tmp 41) (.const (.int .i64 0)), some (some 40, true), [4, 3, 2, 1, 0]⟩,
      ⟨some 43, .pick (.tmp 40) (.tmp 42) (.const (.bool false)), none, [5, 4, 3, 2, 1, 0]⟩]) <|
    .cond (.tmp 43) (.seq (.region false [⟨some 44, .mov (.tmp 2), none, []⟩,
        ⟨some 45, .mov (.tmp 8), none, []⟩,
        ⟨some 46, .build [(.int .i64 0), (.int .i64 0), (.int .i64 0), (.int .i64 0)] [(0, 1, (.const (.int .i64 2))), (1, 1, (.tmp 44)), (2, 1, (.tmp 45))], none, [0, 1]⟩,
        ⟨none, .store 4 (.tmp 6) (.tmp 46), none, [2, 0, 1]⟩]) <|
      .ret)
      (.skip)) <|
    .seq (.region false [⟨some 47, .load 4 true (.tmp 9), none, []⟩,
      ⟨none, .store 4 (.tmp 6) (.tmp 47), none, [0]⟩]) <|
    .ret)
    (.skip)) <|
  .seq (.seq (.region false [⟨some 48, .fa 0 (.tmp 4), none, []⟩,
    ⟨some 49, .load 1 false (.tmp 48), none, [0]⟩,
    ⟨some 50, .bin .eql .no (.tmp 49) (.const (.int .i64 3)), none, [1, 0]⟩,
    ⟨some 51, .mov (.tmp 50), none, [2, 1, 0]⟩,
    ⟨some 52, .mov (.tmp 0), some (some 51, true), [3, 2, 1, 0]⟩,
    ⟨some 53, .callv (.const (.fn (g "(*dactyl/dactylref23.Maker).Take") [] [])) [(.tmp 52), (.const (.int .i64 3))], some (some 51, true), [4, 3, 2, 1, 0]⟩,
    ⟨some 54, .bin .gtr .no (.tmp 53) (.const (.int .i64 0)), some (some 51, true), [5, 4, 3, 2, 1, 0]⟩,
    ⟨some 55, .pick (.tmp 51) (.tmp 54) (.const (.bool false)), none, [6, 5, 4, 3, 2, 1, 0]⟩]) <|
  .cond (.tmp 55) (.seq (.region true (dactylref23_Maker_Fact_d1 g)) <|
    .ret)
    (.skip)) <|
  .seq (.seq (.region false [⟨some 72, .fa 0 (.tmp 4), none, []⟩,
    ⟨some 73, .load 1 false (.tmp 72), none, [0]⟩,
    ⟨some 74, .bin .eql .no (.tmp 73) (.const (.int .i64 5)), none, [1, 0]⟩,
    ⟨some 75, .mov (.tmp 74), none, [2, 1, 0]⟩,
    ⟨some 76, .mov (.tmp 0), some (some 75, true), [3, 2, 1, 0]⟩,
    ⟨some 77, .callv (.const (.fn (g "(*dactyl/dactylref23.Maker).Take") [] [])) [(.tmp 76), (.const (.int .i64 3))], some (some 75, true), [4, 3, 2, 1, 0]⟩,
    ⟨some 78, .bin .gtr .no (.tmp 77) (.const (.int .i64 0)), some (some 75, true), [5, 4, 3, 2, 1, 0]⟩,
    ⟨some 79, .pick (.tmp 75) (.tmp 78) (.const (.bool false)), none, [6, 5, 4, 3, 2, 1, 0]⟩]) <|
  .cond (.tmp 79) (.seq (.region true (dactylref23_Maker_Fact_d2 g)) <|
    .ret)
    (.skip)) <|
  .seq (.seq (.region false [⟨some 96, .fa 0 (.tmp 4), none, []⟩,
    ⟨some 97, .load 1 false (.tmp 96), none, [0]⟩,
    ⟨some 98, .bin .eql .no (.tmp 97) (.const (.int .i64 6)), none, [1, 0]⟩,
    ⟨some 99, .mov (.tmp 98), none, [2, 1, 0]⟩,
    ⟨some 100, .mov (.tmp 0), some (some 99, true), [3, 2, 1, 0]⟩,
    ⟨some 101, .callv (.const (.fn (g "(*dactyl/dactylref23.Maker).Take") [] [])) [(.tmp 100), (.const (.int .i64 3))], some (some 99, true), [4, 3, 2, 1, 0]⟩,
    ⟨some 102, .bin .gtr .no (.tmp 101) (.const (.int .i64 0)), some (some 99, true), [5, 4, 3, 2, 1, 0]⟩,
    ⟨some 103, .pick (.tmp 99) (.tmp 102) (.const (.bool false)), none, [6, 5, 4, 3, 2, 1, 0]⟩]) <|
  .cond (.tmp 103) (.seq (.region false [⟨some 104, .mov (.tmp 2), none, []⟩,
      ⟨some 105, .mov (.tmp 0), none, []⟩,
      ⟨some 106, .fa 12 (.tmp 4), none, []⟩,
      ⟨some 107, .load 1 false (.tmp 106), none, [2]⟩,
      ⟨some 108, .lenV (.tmp 107), none, [3, 2]⟩,
      ⟨some 109, .callv (.const (.fn (g "(*dactyl/dactylref23.Maker).Take") [] [])) [(.tmp 105), (.tmp 108)], none, [1, 4, 3, 2]⟩,
      ⟨some 110, .build [(.int .i64 0), (.int .i64 0), (.int .i64 0), (.int .i64 0)] [(0, 1, (.const (.int .i64 6))), (1, 1, (.tmp 104)), (2, 1, (.tmp 109))], none, [0, 5, 1, 4, 3, 2]⟩,
      ⟨none, .store 4 (.tmp 6) (.tmp 110), none, [6, 0, 5, 1, 4, 3, 2]⟩]) <|
    .ret)
    (.skip)) <|
  .seq (.region false [⟨some 111, .mov (.tmp 2), none, []⟩,
    ⟨some 112, .build [(.int .i64 0), (.int .i64 0), (.int .i64 0), (.int .i64 0)] [(0, 1, (.const (.int .i64 0))), (1, 1, (.tmp 111))], none, [0]⟩,
    ⟨none, .store 4 (.tmp 6) (.tmp 112), none, [1, 0]⟩]) <|
  .ret⟩
abbrev IsFact (v : AV) : Prop := ∃ f : Fact, v = .agg (encFact f) ∧ f.Ok
abbrev GenSpec' (A : AProg) (f : Nat) (args : List AV) (P : AV → Prop) : Prop := ∀ (l : List Int) (i : Int) (o v : Nat) (H : List AObj), ListOk l → H[o]? = some (.box v (makerCells l i)) →
  ∃ val i' wr, callI A f (.ptr o v 0 :: args) H = some (val, H.set o (.box v (makerCells l i')), wr) ∧ (wr = [] ∨ wr = [o]) ∧ P val
theorem Has.gen' {A : AProg} {g : String → Nat} {name : String} {fn : AFn} (h : Has A g name fn) {args : List AV} {P : AV → Prop} (hN : args.length + 1 ≤ fn.ntmps) (hok : ∀ n, codeOk fn.ntmps ⟨n, fn.sites⟩ fn.body = true)
    (hw : ∀ (l : List Int) (i : Int) (o v : Nat) (H : List AObj), ListOk l → o < H.length → H[o]? = some (.box v (makerCells l i)) →
      wc A fn.ntmps ⟨H.length, fn.sites⟩ fn.body (enterF (.ptr o v 0 :: args)) (H ++ List.replicate fn.sites.length (.gone 0)) [] (ends H.length fn.results (fun val H' wr => (∃ i', H' = H.set o (.box v (makerCells l i'))) ∧ (wr = [] ∨ wr = [o]) ∧ P val) ⟨⟩) ⟨⟩) :
    GenSpec' A (g name) args P := by
  intro l i o v H hl ho
  obtain ⟨val, H', wr, h1,⟨i', rfl⟩, hw2, h2⟩ := h.callEx (args := .ptr o v 0 :: args) (by simpa using hN) (hok _) (hw l i o v H hl (getElem?_lt ho) ho)
  exact ⟨val, i', wr, h1, hw2, h2⟩
set_option maxHeartbeats 6400000 in
theorem fact_gen {A : AProg} {g : String → Nat} (h : Has A g "(*dactyl/dactylref23.Maker).Fact" (dactylref23_Maker_Fact g)) (ht : SpecTake A g) {b : Block} (hb : MBlock b) {at' : Int} (ha0 : 0 ≤ at') (ha1 : at' ≤ 1000) :
    GenSpec' A (g "(*dactyl/dactylref23.Maker).Fact") [.agg (encBlock b), vi at'] IsFact := by
  refine h.gen' (by simp [dactylref23_Maker_Fact]) (fun n => by kernel_rfl) ?_
  intro l i o v H hl hlt ho
  obtain ⟨hl1, hl2, hl3, hl4⟩ := hb.lens
  have fin : ∀ k x y : Int, 0 ≤ k → k ≤ 1000 → 0 ≤ x → x ≤ 1000 → 0 ≤ y → y ≤ 1000 → IsFact (.agg [vi k, vi at', vi x, vi y]) := fun k x y h1 h2 h3 h4 h5 h6 =>
    ⟨⟨k, at', x, y⟩, rfl,⟨small_ok h1 (by show k ≤ 1000000; omega), small_ok ha0 (by show at' ≤ 1000000; omega), small_ok h3 (by show x ≤ 1000000; omega), small_ok h5 (by show y ≤ 1000000; omega)⟩⟩
  simp only [dactylref23_Maker_Fact]
  cases hbe : b.expr with | mk op n kids =>
  by_cases k6 : b.kind = 6
  · have hn := hb.listing k6
    simp only [go_sem, ↓reduceIte, NB, NA, NL, ND, NE, IB, encBlock, hbe, encExpr, encExprs_map', k6]
    refine gen_call (take_gen ht (m := 3) (by decide)) hl (i := i) (by simp only [go_sem, old_get, hlt, ho]) ?_
    rintro val i1 ⟨x, rfl, hx0, hx1⟩
    simp only [go_sem, ↓reduceIte, hlt, old_set]
    refine branch_intro (fun hb1 => ?_) (fun hb1 => ?_)
    · simp only [go_sem, ↓reduceIte, NB, NA, ND, NE, hlt]
      refine gen_call (take_gen ht (m := b.lines.length) (by omega)) hl (i := i1) (by simp only [go_sem, old_get_set, hlt]) ?_
      rintro val i2 ⟨y, rfl, hy0, hy1⟩
      simp only [go_sem, ↓reduceIte, NA, reduceCtorEq, hlt, old_set_set, objUnder_app, underLL_of_data (dataLL_map data_int _)]
      exact ⟨⟨i2, rfl⟩, .inr trivial, fin 6 y 0 (by decide) (by decide) hy0 (by omega) (by decide) (by decide)⟩
    · simp only [go_sem, ↓reduceIte, NB, NA, ND, reduceCtorEq, hlt, objUnder_app, underLL_of_data (dataLL_map data_int _)]
      exact ⟨⟨i1, rfl⟩, .inr trivial, fin 0 0 0 (by decide) (by decide) (by decide) (by decide) (by decide) (by decide)⟩
  by_cases k5 : b.kind = 5
  · have hn := hb.music k5
    cases hhd : b.hands with
    | nil => rw [hhd] at hn; simp at hn
    | cons h0 hr =>
    have hh0 := hn.2 h0 (by rw [hhd]; simp)
    rw [hhd] at hl3
    simp only [List.length_cons] at hl3
    simp only [go_sem, ↓reduceIte, NB, NA, NL, ND, NE, IB, encBlock, hbe, encExpr, encExprs_map', k5, hhd]
    refine gen_call (take_gen ht (m := 3) (by decide)) hl (i := i) (by simp only [go_sem, old_get, hlt, ho]) ?_
    rintro val i1 ⟨x, rfl, hx0, hx1⟩
    simp only [go_sem, ↓reduceIte, hlt, old_set]
    refine branch_intro (fun hb1 => ?_) (fun hb1 => ?_)
    · simp only [go_sem]
      refine wc_draw' (keep := dactylref23_Maker_Fact_k2) (by rfl) (by rfl) ?_
      simp only [go_sem, ↓reduceIte, NB, NA, ND, NE, ID, IT, dactylref23_Maker_Fact_k2, hlt, encHand]
      refine gen_callD (take_gen ht (m := h0.length) (by have := hh0.1; omega)) hl (i := i1) (by simp only [go_sem, old_get_set, hlt]) ?_
      rintro val i2 ⟨y, rfl, hy0, hy1⟩
      simp only [go_sem, ↓reduceIte, NA, ND, hlt, old_set_set]
      refine gen_callD (take_gen ht (m := ((hr.length + 1 : Nat) : Int)) (by omega)) hl (i := i2) (by simp only [go_sem, old_get_set, hlt]) ?_
      rintro val i3 ⟨z, rfl, hz0, hz1⟩
      have hne : (H.length == o) = false := by simp; omega
      simp only [go_sem, ↓reduceIte, NB, NA, BF, reduceCtorEq, hlt, old_set_set, objUnder_app, underLL_of_data (dataLL_map data_int _), logOk, apartL, hne, orderOk_intro]
      have := hh0.2.1
      exact ⟨⟨i3, rfl⟩, .inr trivial, fin 5 y z (by decide) (by decide) hy0 (by omega) hz0 (by omega)⟩
    · simp only [go_sem, ↓reduceIte, NB, NA, ND, IB, reduceCtorEq, hlt, objUnder_app, underLL_of_data (dataLL_map data_int _)]
      exact ⟨⟨i1, rfl⟩, .inr trivial, fin 0 0 0 (by decide) (by decide) (by decide) (by decide) (by decide) (by decide)⟩
  by_cases k3 : b.kind = 3
  · have hn := hb.grid k3
    cases hhd : b.grid with
    | nil => rw [hhd] at hn; simp at hn
    | cons h0 hr =>
    have hh0 := hn.2 h0 (by rw [hhd]; simp)
    rw [hhd] at hl2
    simp only [List.length_cons] at hl2
    simp only [go_sem, ↓reduceIte, NB, NA, NL, ND, NE, IB, encBlock, hbe, encExpr, encExprs_map', k3, hhd]
    refine gen_call (take_gen ht (m := 3) (by decide)) hl (i := i) (by simp only [go_sem, old_get, hlt, ho]) ?_
    rintro val i1 ⟨x, rfl, hx0, hx1⟩
    simp only [go_sem, ↓reduceIte, hlt, old_set]
    refine branch_intro (fun hb1 => ?_) (fun hb1 => ?_)
    · simp only [go_sem]
      refine wc_draw' (keep := dactylref23_Maker_Fact_k1) (by rfl) (by rfl) ?_
      simp only [go_sem, ↓reduceIte, NB, NA, ND, NE, dactylref23_Maker_Fact_k1, hlt, encRow]
      refine gen_callD (take_gen ht (m := ((hr.length + 1 : Nat) : Int)) (by omega)) hl (i := i1) (by simp only [go_sem, old_get_set, hlt]) ?_
      rintro val i2 ⟨y, rfl, hy0, hy1⟩
      simp only [go_sem, ↓reduceIte, NA, ND, ID, IT, hlt, old_set_set]
      refine gen_callD (take_gen ht (m := h0.length) (by have := hh0.1; omega)) hl (i := i2) (by simp only [go_sem, old_get_set, hlt]) ?_
      rintro val i3 ⟨z, rfl, hz0, hz1⟩
      have hne : (H.length == o) = false := by simp; omega
      simp only [go_sem, ↓reduceIte, NB, NA, BF, reduceCtorEq, hlt, old_set_set, objUnder_app, underLL_of_data (dataLL_map data_int _), logOk, apartL, hne, orderOk_intro]
      have := hh0.2.1
      exact ⟨⟨i3, rfl⟩, .inr trivial, fin 1 y z (by decide) (by decide) hy0 (by omega) hz0 (by omega)⟩
    · simp only [go_sem, ↓reduceIte, NB, NA, ND, IB, reduceCtorEq, hlt, objUnder_app, underLL_of_data (dataLL_map data_int _)]
      exact ⟨⟨i1, rfl⟩, .inr trivial, fin 0 0 0 (by decide) (by decide) (by decide) (by decide) (by decide) (by decide)⟩
  by_cases k4 : b.kind = 4
  · have hn := hb.figure k4
    have hw0 : IntKind.i64.wrap ((b.shapes.length : Int) - 1) = (b.shapes.length : Int) - 1 := wrap_i64 (by omega) (by omega)
    simp only [go_sem, ↓reduceIte, NB, NA, NL, ND, NE, encBlock, hbe, encExpr, encExprs_map', k4]
    refine gen_call (take_gen ht (m := b.shapes.length) (by omega)) hl (i := i) (by simp only [go_sem, old_get, hlt, ho]) ?_
    rintro val i1 ⟨x, rfl, hx0, hx1⟩
    simp only [go_sem, ↓reduceIte, hlt, old_set]
    refine wc_draw' (keep := dactylref23_Maker_Fact_k0) (H0 := _) (by simp only [go_sem, ↓reduceIte, NA, NL, NE, preAlloc]; rfl) (by rfl) ?_
    simp only [go_sem, ↓reduceIte, NB, NA, NL, ND, NE, dactylref23_Maker_Fact_k0]
    refine gen_callD (take_gen ht (m := 2) (by decide)) hl (i := i1) (by simp only [go_sem, old_get_set, hlt]) ?_
    rintro val i2 ⟨y, rfl, hy0, hy1⟩
    obtain ⟨kd, hkd, htab⟩ := tabI [3, 4] hy0 hy1
    simp only [List.map, encInt] at htab
    have hkb : 0 ≤ kd ∧ kd ≤ 4 := by
      simp only [List.mem_cons, List.not_mem_nil, or_false] at hkd
      omega
    have hwx : IntKind.i64.wrap (x + 1) = x + 1 := wrap_i64 (by omega) (by omega)
    have hne : (H.length == o) = false := by simp; omega
    have hne2 : (H.length + 2 == o) = false := by simp; omega
    simp only [go_sem, ↓reduceIte, NA, ND, hlt, old_set_set, hy0, htab, hwx, hw0]
    refine gen_callD (take_gen ht (m := (b.shapes.length : Int) - 1) (by omega)) hl (i := i2) (by simp only [go_sem, old_get_set, hlt]) ?_
    rintro val i3 ⟨z, rfl, hz0, hz1⟩
    have hwz : IntKind.i64.wrap (x + 1 + z) = x + 1 + z := wrap_i64 (by omega) (by omega)
    have hnz : (b.shapes.length : Int) ≠ 0 := by omega
    have hr0 := Int.tmod_nonneg (b.shapes.length : Int) (a := x + 1 + z) (by omega)
    have hr1 := Int.tmod_lt_of_pos (x + 1 + z) (b := (b.shapes.length : Int)) (by omega)
    simp only [go_sem, ↓reduceIte, NB, NA, NE, BF, hlt, old_set_set, hwz, bin_rem hnz, logOk, apartL, hne2, orderOk_intro]
    refine gen_call (take_gen ht (m := 3) (by decide)) hl (i := i3) (by simp only [go_sem, old_get_set, hlt]) ?_
    rintro val i4 ⟨w, rfl, hw0, hw1⟩
    have last := fin kd x ((x + 1 + z).tmod b.shapes.length) hkb.1 (by omega) hx0 (by omega) hr0 (by omega)
    simp only [go_sem, ↓reduceIte, hlt, old_set_set]
    refine branch_intro (fun hb1 => ?_) (fun hb1 => ?_)
    · have hb2 : (w == 0) = true := by simpa using hb1
      simp only [go_sem, ↓reduceIte, NB, hb2]
      refine branch_intro (fun hb3 => ?_) (fun hb3 => ?_)
      · simp only [go_sem, ↓reduceIte, NB, NA, ND, reduceCtorEq, hlt, objUnder_app, underLL_of_data (dataLL_map data_int _)]
        exact ⟨⟨i4, rfl⟩, .inr trivial, fin 2 x 0 (by decide) (by decide) hx0 (by omega) (by decide) (by decide)⟩
      · simp only [go_sem, ↓reduceIte, NB, NA, reduceCtorEq, hlt, objUnder_app, underLL_of_data (dataLL_map data_int _)]
        exact ⟨⟨i4, rfl⟩, .inr trivial, last⟩
    · have hb2 : (w == 0) = false := by
        cases hq : (w == 0) with
        | false => rfl
        | true => rw [hq] at hb1; cases hb1
      simp only [go_sem, ↓reduceIte, NB, NA, reduceCtorEq, hb2, hlt, objUnder_app, underLL_of_data (dataLL_map data_int _)]
      exact ⟨⟨i4, rfl⟩, .inr trivial, last⟩
  · simp only [go_sem, ↓reduceIte, NB, NA, NL, ND, NE, reduceCtorEq, encBlock, hbe, encExpr, encExprs_map', bne_of k3, bne_of k4, bne_of k5, bne_of k6]
    exact ⟨⟨i, (set_same ho).symm⟩, .inl trivial, fin 0 0 0 (by decide) (by decide) (by decide) (by decide) (by decide) (by decide)⟩
end Go.Proofs.AM
end
