/- Part 27 of the proof that stands in the last text of this folder (lemmas; no statement of its own). -/
import Derived.Test.YtjomjnkapjgheaaDoorK26
section
open Nat renaming reduceBEq → NB, reduceAdd → NA, reduceSub → NS, reduceMul → NM, reduceLT → NL, reduceLeDiff → ND, reduceEqDiff → NE
open Int renaming reduceLT → IL, reduceLE → ID, reduceToNat → IT, reduceEq → IE, reduceBEq → IB, reduceBNe → IN, reduceAdd → IA, reduceSub → IS, reduceNeg → IM
open Bool renaming not_true → BT, not_false → BF
set_option linter.unusedVariables false
set_option maxRecDepth 8000
namespace Go.Proofs.AM
open Go
abbrev dactylref23_Spoilt_d0 (g : String → Nat) : List AOper := [⟨some 97, .fa 1 (.tmp 11), none, []⟩,⟨some 98, .load 1 false (.tmp 97), none, [0]⟩,⟨some 99, .mov (.tmp 12), none, []⟩,⟨some 100, .fa 1 (.tmp 11), none, []⟩,⟨some 101, .load 1 false (.tmp 100), none, [3]⟩,⟨some 102, .mov (.tmp 12), none, []⟩,⟨some 103, .iaV (.tmp 101) (.tmp 102) 13, none, [4, 3, 5]⟩,⟨some 104, .load 13 true (.tmp 103), none, [6, 4, 3, 5]⟩,⟨some 105, .mov (.tmp 2), none, []⟩,⟨some 106, .bin .quo .no (.tmp 105) (.const (.int .i64 6)), none, [8]⟩,⟨some 107, .mov (.tmp 3), none, []⟩,⟨some 108, .callv (.const (.fn (g "dactyl/dactylref23.spoiltBlock") [] [])) [(.tmp 104), (.tmp 106), (.tmp 107)], none, [7, 6, 4, 3, 5, 9, 8, 10]⟩,⟨some 109, .iaV (.tmp 98) (.tmp 99) 13, none, [1, 0, 2, 11, 7, 6, 4, 3, 5, 9, 8, 10]⟩,⟨none, .store 13 (.tmp 109) (.tmp 108), none, [12, 1, 0, 2, 11, 7, 6, 4, 3, 5, 9, 8, 10]⟩]
abbrev dactylref23_Spoilt_k0 : List Nat := [1, 11]
abbrev dactylref23_Spoilt_d1 (g : String → Nat) : List AOper := [⟨some 127, .fa 3 (.tmp 11), none, []⟩,⟨some 128, .load 1 false (.tmp 127), none, [0]⟩,⟨some 129, .mov (.tmp 13), none, []⟩,⟨some 130, .fa 3 (.tmp 11), none, []⟩,⟨some 131, .load 1 false (.tmp 130), none, [3]⟩,⟨some 132, .mov (.tmp 13), none, []⟩,⟨some 133, .iaV (.tmp 131) (.tmp 132) 7, none, [4, 3, 5]⟩,⟨some 134, .load 7 true (.tmp 133), none, [6, 4, 3, 5]⟩,⟨some 135, .mov (.tmp 2), none, []⟩,⟨some 136, .bin .quo .no (.tmp 135) (.const (.int .i64 6)), none, [8]⟩,⟨some 137, .mov (.tmp 3), none, []⟩,⟨some 138, .callv (.const (.fn (g "dactyl/dactylref23.spoiltQuestion") [] [])) [(.tmp 134), (.tmp 136), (.tmp 137)], none, [7, 6, 4, 3, 5, 9, 8, 10]⟩,⟨some 139, .iaV (.tmp 128) (.tmp 129) 7, none, [1, 0, 2, 11, 7, 6, 4, 3, 5, 9, 8, 10]⟩,⟨none, .store 7 (.tmp 139) (.tmp 138), none, [12, 1, 0, 2, 11, 7, 6, 4, 3, 5, 9, 8, 10]⟩]
abbrev dactylref23_Spoilt_k1 : List Nat := [1, 11]
def dactylref23_Spoilt_b0 (g : String → Nat) : ACode := .block 0 (.seq (.region false [⟨some 43, .bin .eql .no (.tmp 37) (.const (.int .i64 0)), none, []⟩,⟨some 42, .mov (.tmp 43), none, [0]⟩]) <| .cond (.tmp 42) (.region false [⟨some 44, .bsl 1 [(.str [])] 4 [(0, (.const (.str []))), (1, (.const (.str [31]))), (2, (.const (.str [79, 116, 104, 101, 114]))), (3, (.const (.str [34, 113, 34])))], none, []⟩,⟨some 45, .mov (.tmp 3), none, []⟩,⟨some 46, .callv (.const (.fn (g "dactyl/dactylref01.Around") [] [])) [(.tmp 45), (.const (.int .i64 4))], none, [1]⟩,⟨some 47, .iaV (.tmp 44) (.tmp 46) 1, none, [0, 2, 1]⟩,⟨some 48, .load 1 false (.tmp 47), none, [3, 0, 2, 1]⟩,⟨some 49, .fa 0 (.tmp 4), none, [4, 3, 0, 2, 1]⟩,⟨none, .store 1 (.tmp 49) (.tmp 48), none, [5, 4, 3, 0, 2, 1]⟩]) (.seq (.region false [⟨some 51, .bin .eql .no (.tmp 37) (.const (.int .i64 1)), none, []⟩,⟨some 50, .mov (.tmp 51), none, [0]⟩]) <| .cond (.tmp 50) (.region false [⟨some 52, .bsl 1 [(.str [])] 6 [(0, (.const (.str []))), (1, (.const (.str [49, 97]))), (2, (.const (.str [111, 116, 104, 101, 114]))), (3, (.const (.str [85, 112, 112, 101, 114]))), (4, (.const (.str [115, 101, 118, 101, 110, 116, 101, 101, 110, 108, 101, 116, 116, 101, 114, 115, 49]))), (5, (.const (.str [97, 32, 98])))], none, []⟩,⟨some 53, .mov (.tmp 3), none, []⟩,⟨some 54, .callv (.const (.fn (g "dactyl/dactylref01.Around") [] [])) [(.tmp 53), (.const (.int .i64 6))], none, [1]⟩,⟨some 55, .iaV (.tmp 52) (.tmp 54) 1, none, [0, 2, 1]⟩,⟨some 56, .load 1 false (.tmp 55), none, [3, 0, 2, 1]⟩,⟨some 57, .fa 0 (.tmp 11), none, [4, 3, 0, 2, 1]⟩,⟨none, .store 1 (.tmp 57) (.tmp 56), none, [5, 4, 3, 0, 2, 1]⟩]) (.seq (.region false [⟨some 59, .bin .eql .no (.tmp 37) (.const (.int .i64 2)), none, []⟩,⟨some 58, .mov (.tmp 59), none, [0]⟩]) <| .cond (.tmp 58) (.region false [⟨some 60, .bsl 4 [(.int .i64 0), (.int .i64 0), (.int .i64 0), (.int .i64 0)] 0 [], none, []⟩,⟨some 61, .fa 2 (.tmp 11), none, []⟩,⟨some 62, .load 1 false (.tmp 61), none, [1]⟩,⟨some 63, .app 4 32 (.tmp 60) (.tmp 62), none, [0, 2, 1]⟩,⟨some 64, .mov (.tmp 3), none, []⟩,⟨some 65, .callv (.const (.fn (g "dactyl/dactylref01.Around") [] [])) [(.tmp 64), (.const (.int .i64 9))], none, [4, 3, 0, 2, 1]⟩,⟨some 66, .bin .sub .no (.tmp 65) (.const (.int .i64 1)), none, [5, 4, 3, 0, 2, 1]⟩,⟨some 67, .mov (.tmp 3), none, []⟩,⟨some 68, .bin .quo .no (.tmp 67) (.const (.int .i64 9)), none, [7]⟩,⟨some 69, .callv (.const (.fn (g "dactyl/dactylref01.Around") [] [])) [(.tmp 68), (.const (.int .i64 10))], none, [8, 7, 5, 4, 3, 0, 2, 1]⟩,⟨some 70, .bin .sub .no (.tmp 69) (.const (.int .i64 1)), none, [9, 8, 7, 5, 4, 3, 0, 2, 1]⟩,⟨some 71, .bsl 1 [(.int .i64 0)] 4 [(0, (.const (.int .i64 0))), (1, (.const (.int .i64 99))), (2, (.const (.int .i64 100))), (3, (.const (.int .i64 (-1))))], none, []⟩,⟨some 72, .mov (.tmp 3), none, []⟩,⟨some 73, .callv (.const (.fn (g "dactyl/dactylref01.Around") [] [])) [(.tmp 72), (.const (.int .i64 4))], none, [12, 9, 8, 7, 5, 4, 3, 0, 2, 1]⟩,⟨some 74, .iaV (.tmp 71) (.tmp 73) 1, none, [11, 13, 12, 9, 8, 7, 5, 4, 3, 0, 2, 1]⟩,⟨some 75, .load 1 false (.tmp 74), none, [14, 11, 13, 12, 9, 8, 7, 5, 4, 3, 0, 2, 1]⟩,⟨some 76, .build [(.int .i64 0), (.int .i64 0), (.int .i64 0), (.int .i64 0)] [(0, 1, (.tmp 66)), (1, 1, (.tmp 70)), (2, 1, (.tmp 75))], none, [6, 10, 15, 14, 11, 13, 12, 9, 8, 7, 5, 4, 3, 0, 2, 1]⟩,⟨some 77, .bsl 4 [(.int .i64 0), (.int .i64 0), (.int .i64 0), (.int .i64 0)] 1 [(0, (.tmp 76))], none, [16, 6, 10, 15, 14, 11, 13, 12, 9, 8, 7, 5, 4, 3, 0, 2, 1]⟩,⟨some 78, .app 4 32 (.tmp 63) (.tmp 77), none, [17, 16, 6, 10, 15, 14, 11, 13, 12, 9, 8, 7, 5, 4, 3, 0, 2, 1]⟩,⟨some 79, .fa 2 (.tmp 11), none, [18, 17, 16, 6, 10, 15, 14, 11, 13, 12, 9, 8, 7, 5, 4, 3, 0, 2, 1]⟩,⟨none, .store 1 (.tmp 79) (.tmp 78), none, [19, 18, 17, 16, 6, 10, 15, 14, 11, 13, 12, 9, 8, 7, 5, 4, 3, 0, 2, 1]⟩]) (.seq (.region false [⟨some 81, .bin .eql .no (.tmp 37) (.const (.int .i64 3)), none, []⟩,⟨some 80, .mov (.tmp 81), none, [0]⟩]) <| .cond (.tmp 80) (.seq (.region false [⟨some 82, .fa 1 (.tmp 11), none, []⟩,⟨some 83, .load 1 false (.tmp 82), none, [0]⟩,⟨some 84, .lenV (.tmp 83), none, [1, 0]⟩,⟨some 85, .bin .gtr .no (.tmp 84) (.const (.int .i64 0)), none, [2, 1, 0]⟩]) <| .cond (.tmp 85) (.seq (.region false [⟨some 86, .bsl 13 [(.int .i64 0), (.sl false []), (.int .i64 0), (.int .i64 0), (.sl false []), (.int .i64 0), (.sl false []), (.sl false []), (.int .i64 0), (.int .i64 0), (.sl false []), (.sl false []), (.sl false [])] 0 [], none, []⟩,⟨some 87, .fa 1 (.tmp 11), none, []⟩,⟨some 88, .load 1 false (.tmp 87), none, [1]⟩,⟨some 89, .app 13 216 (.tmp 86) (.tmp 88), none, [0, 2, 1]⟩,⟨some 90, .fa 1 (.tmp 11), none, [3, 0, 2, 1]⟩,⟨none, .store 1 (.tmp 90) (.tmp 89), none, [4, 3, 0, 2, 1]⟩]) <| .seq (.region false [⟨some 91, .mov (.tmp 1), none, []⟩,⟨some 92, .bin .quo .no (.tmp 91) (.const (.int .i64 3)), none, [0]⟩,⟨some 93, .fa 1 (.tmp 11), none, []⟩,⟨some 94, .load 1 false (.tmp 93), none, [2]⟩,⟨some 95, .lenV (.tmp 94), none, [3, 2]⟩,⟨some 96, .callv (.const (.fn (g "dactyl/dactylref01.Around") [] [])) [(.tmp 92), (.tmp 95)], none, [1, 0, 4, 3, 2]⟩,⟨some 12, .mov (.tmp 96), none, [5, 1, 0, 4, 3, 2]⟩]) <| .region true (dactylref23_Spoilt_d0 g)) (.skip)) (.seq (.region false [⟨some 111, .bin .eql .no (.tmp 37) (.const (.int .i64 4)), none, []⟩,⟨some 110, .mov (.tmp 111), none, [0]⟩]) <| .cond (.tmp 110) (.seq (.region false [⟨some 112, .fa 3 (.tmp 11), none, []⟩,⟨some 113, .load 1 false (.tmp 112), none, [0]⟩,⟨some 114, .lenV (.tmp 113), none, [1, 0]⟩,⟨some 115, .bin .gtr .no (.tmp 114) (.const (.int .i64 0)), none, [2, 1, 0]⟩]) <| .cond (.tmp 115) (.seq (.region false [⟨some 116, .bsl 7 [(.int .i64 0), (.sl false []), (.sl false []), (.sl false []), (.str []), (.int .i64 0), (.sl false [])] 0 [], none, []⟩,⟨some 117, .fa 3 (.tmp 11), none, []⟩,⟨some 118, .load 1 false (.tmp 117), none, [1]⟩,⟨some 119, .app 7 128 (.tmp 116) (.tmp 118), none, [0, 2, 1]⟩,⟨some 120, .fa 3 (.tmp 11), none, [3, 0, 2, 1]⟩,⟨none, .store 1 (.tmp 120) (.tmp 119), none, [4, 3, 0, 2, 1]⟩]) <| .seq (.region false [⟨some 121, .mov (.tmp 1), none, []⟩,⟨some 122, .bin .quo .no (.tmp 121) (.const (.int .i64 3)), none, [0]⟩,⟨some 123, .fa 3 (.tmp 11), none, []⟩,⟨some 124, .load 1 false (.tmp 123), none, [2]⟩,⟨some 125, .lenV (.tmp 124), none, [3, 2]⟩,⟨some 126, .callv (.const (.fn (g "dactyl/dactylref01.Around") [] [])) [(.tmp 122), (.tmp 125)], none, [1, 0, 4, 3, 2]⟩,⟨some 13, .mov (.tmp 126), none, [5, 1, 0, 4, 3, 2]⟩]) <| .region true (dactylref23_Spoilt_d1 g)) (.skip)) (.region false [⟨some 38, .mov (.tmp 10), none, []⟩,⟨some 39, .load 4 true (.tmp 11), none, []⟩,⟨some 40, .bsl 4 [(.str []), (.sl false []), (.sl false []), (.sl false [])] 1 [(0, (.tmp 39))], none, [1]⟩,⟨some 41, .app 4 88 (.tmp 38) (.tmp 40), none, [0, 2, 1]⟩,⟨some 10, .mov (.tmp 41), none, [3, 0, 2, 1]⟩]))))))
def dactylref23_Spoilt (g : String → Nat) : AFn := ⟨147, [4, 8, 31, 11, 63, 78, 89, 119, 41], [.cell 8 2 true],
  .seq (.region false [⟨some 4, .box 2 (.tmp 0), none, []⟩,
    ⟨some 8, .alloc [(.str []), (.sl true [])], none, []⟩]) <|
  .seq (.seq (.region false [⟨some 14, .fa 1 (.tmp 4), none, []⟩,
    ⟨some 15, .load 1 false (.tmp 14), none, [0]⟩,
    ⟨some 16, .lenV (.tmp 15), none, [1, 0]⟩,
    ⟨some 17, .bin .eql .no (.tmp 16) (.const (.int .i64 0)), none, [2, 1, 0]⟩]) <|
  .cond (.tmp 17) (.seq (.region false [⟨some 18, .fa 0 (.tmp 4), none, []⟩,
      ⟨some 19, .load 1 false (.tmp 18), none, [0]⟩,
      ⟨some 20, .bin .add .no (.tmp 19) (.const (.str [10])), none, [1, 0]⟩,
      ⟨some 21, .fa 0 (.tmp 4), none, [2, 1, 0]⟩,
      ⟨none, .store 1 (.tmp 21) (.tmp 20), none, [3, 2, 1, 0]⟩]) <|
    .seq (.region false [⟨some 22, .load 2 true (.tmp 4), none, []⟩,
      ⟨none, .store 2 (.tmp 8) (.tmp 22), none, [0]⟩]) <|
    .ret)
    (.skip)) <|
  .seq (.region false [⟨some 23, .mov (.tmp 1), none, []⟩,
    ⟨some 24, .fa 1 (.tmp 4), none, []⟩,
    ⟨some 25, .load 1 false (.tmp 24), none, [1]⟩,
    ⟨some 26, .lenV (.tmp 25), none, [2, 1]⟩,
    ⟨some 27, .callv (.const (.fn (g "dactyl/dactylref01.Around") [] [])) [(.tmp 23), (.tmp 26)], none, [0, 3, 2, 1]⟩,
    ⟨some 9, .mov (.tmp 27), none, [4, 0, 3, 2, 1]⟩]) <|
  .seq (.region false [⟨some 28, .bsl 4 [(.str []), (.sl false []), (.sl false []), (.sl false [])] 0 [], none, []⟩,
    ⟨some 29, .fa 1 (.tmp 4), none, []⟩,
    ⟨some 30, .load 1 false (.tmp 29), none, [1]⟩,
    ⟨some 31, .app 4 88 (.tmp 28) (.tmp 30), none, [0, 2, 1]⟩,
    ⟨some 10, .mov (.tmp 31), none, [3, 0, 2, 1]⟩]) <|
  .seq (.region false [⟨some 32, .mov (.tmp 10), none, []⟩,
    ⟨some 33, .mov (.tmp 9), none, []⟩,
    ⟨some 34, .iaV (.tmp 32) (.tmp 33) 4, none, [0, 1]⟩,
    ⟨some 35, .load 4 true (.tmp 34), none, [2, 0, 1]⟩,
    ⟨some 11, .alloc [(.str []), (.sl true []), (.sl true []), (.sl true [])], none, []⟩,
    ⟨none, .store 4 (.tmp 11) (.tmp 35), none, [3, 2, 0, 1, 4]⟩]) <|
  .seq (.seq (.region false [⟨some 36, .mov (.tmp 2), none, []⟩,
    ⟨some 37, .callv (.const (.fn (g "dactyl/dactylref01.Around") [] [])) [(.tmp 36), (.const (.int .i64 6))], none, [0]⟩]) <|
  dactylref23_Spoilt_b0 g) <|
  .seq (.seq (.frz [(4, 11)]) <|
  .region false [⟨some 140, .mov (.tmp 10), none, []⟩,
    ⟨some 141, .mov (.tmp 9), none, []⟩,
    ⟨some 142, .load 4 true (.tmp 11), none, []⟩,
    ⟨some 143, .iaV (.tmp 140) (.tmp 141) 4, none, [0, 1, 2]⟩,
    ⟨none, .store 4 (.tmp 143) (.tmp 142), none, [3, 0, 1, 2]⟩]) <|
  .seq (.region false [⟨some 144, .mov (.tmp 10), none, []⟩,
    ⟨some 145, .fa 1 (.tmp 4), none, [0]⟩,
    ⟨none, .store 1 (.tmp 145) (.tmp 144), none, [1, 0]⟩]) <|
  .seq (.region false [⟨some 146, .load 2 true (.tmp 4), none, []⟩,
    ⟨none, .store 2 (.tmp 8) (.tmp 146), none, [0]⟩]) <|
  .ret⟩
theorem wrap_ok (n : Int) : IntOk (IntKind.i64.wrap n) := by
  rw [Go.IntKind.wrap_i64]
  constructor <;> omega
theorem drop_block (b : Block) : List.drop 13 (encBlock b) = [] := List.drop_eq_nil_of_le (by rw [len_block]; exact Nat.le_refl _)
theorem take_q (q : Question) : List.take 7 (encQ q) = encQ q := List.take_of_length_le (Nat.le_refl _)
theorem drop_q (q : Question) : List.drop 7 (encQ q) = [] := rfl
theorem mem_set_ok {α : Type} {P : α → Prop} {l : List α} {a : α} (h : ∀ x ∈ l, P x) (ha : P a) (i : Nat) : ∀ x ∈ l.set i a, P x := by
  intro x hx
  rcases List.mem_or_eq_of_mem_set hx with hx | rfl
  · exact h x hx
  · exact ha
theorem idx_of {α : Type} {l : List α} {enc : α → List AV} {n : Int} (h0 : 0 ≤ n) (h1 : n < l.length) : ∃ a ∈ l, (l.map enc)[n.toNat]? = some (enc a) ∧ l[n.toNat]? = some a := by
  have hlt : n.toNat < l.length := by omega
  exact ⟨l[n.toNat], List.getElem_mem hlt, getElem?_map_of hlt, List.getElem?_eq_getElem hlt⟩
theorem set_item (L : List Item) (k : Nat) (nm : Str) (bs : List Block) (fs : List Fact) (qs : List Question) :
    (L.map encItem).set k [.str nm, .sl false (bs.map encBlock), .sl false (fs.map encFact), .sl false (qs.map encQ)] = (L.set k (Item.mk nm bs fs qs)).map encItem := by
  exact (List.map_set (f := encItem) (l := L) (i := k) (a := Item.mk nm bs fs qs)).symm
abbrev IsExam' (v : AV) : Prop := ∃ x : Exam, v = encExam x ∧ x.Ok
set_option maxHeartbeats 6400000 in
theorem spoilt_spec {A : AProg} {g : String → Nat} (h : Has A g "dactyl/dactylref23.Spoilt" (dactylref23_Spoilt g)) (ha : SpecAround A g)
    (hB : ∀ {b : Block}, b.Ok → BSlack b → ∀ {how by' : Int}, IntOk by' → ∀ H, ∃ v H' wr, callI A (g "dactyl/dactylref23.spoiltBlock") [.agg (encBlock b), vi how, vi by'] H = some (v, H', wr) ∧ (H' = H ∧ wr = [] ∧ ∃ b1 : Block, v = .agg (encBlock b1) ∧ b1.Ok))
    (hQ : ∀ {q : Question}, q.Ok → QSlack q → ∀ {how by' : Int}, IntOk by' → ∀ H, ∃ v H' wr, callI A (g "dactyl/dactylref23.spoiltQuestion") [.agg (encQ q), vi how, vi by'] H = some (v, H', wr) ∧ (H' = H ∧ wr = [] ∧ ∃ q1 : Question, v = .agg (encQ q1) ∧ q1.Ok))
    {x : Exam} (hx : x.Ok) (hs : XSlack x) {at' how by' : Int} (hat : IntOk at') (hby : IntOk by') (H : List AObj) :
    ∃ v H' wr, callI A (g "dactyl/dactylref23.Spoilt") [encExam x, vi at', vi how, vi by'] H = some (v, H', wr) ∧ (H' = H ∧ wr = [] ∧ IsExam' v) := by
  refine h.callEx (by simp [dactylref23_Spoilt]) (by kernel_rfl) ?_
  obtain ⟨title, items⟩ := x
  have ht1 := hs.title
  have hi1 := hs.items
  have hi2 := hs.item
  have hi3 := hx.items
  simp only at ht1 hi1 hi2 hi3
  have fin : ∀ x1 : Exam, x1.Ok → ∀ v : AV, v = encExam x1 → IsExam' v := fun x1 h v e => ⟨x1, e, h⟩
  simp only [dactylref23_Spoilt, dactylref23_Spoilt_b0]
  cases hit : items with
  | nil =>
    have hadd : ∀ ek, binV .add ek (.str title) (.str [10]) = some (.str (title ++ [10])) := fun ek => bin_addS (by simp; omega)
    simp only [go_sem, ↓bnd_eq, ↓reduceIte, NB, NA, NL, ND, NE, IM, encExam, hadd]
    exact fin ⟨title ++ [10], []⟩ ⟨by show (title ++ [10]).length ≤ 1000; simp; omega, by simp, by simp⟩ _ rfl
  | cons a0 r0 =>
    rw [← hit]
    have hne : (decide (((items.length : Nat) : Int) = 0)) = false := by rw [hit]; simp; omega
    have hne2 : (((items.length : Nat) : Int) == 0) = false := by rw [hit]; simp; omega
    have hem : (items.map encItem).isEmpty = false := by rw [hit]; rfl
    have hhd : headOk 4 (items.map encItem) = true := by rw [hit]; rfl
    have hrm : roomy items.length 88 = true := roomy_of (by omega) (by decide)
    obtain ⟨i0, i1⟩ := around_ok hat (m := (items.length : Int)) (by rw [hit]; simp; omega)
    obtain ⟨it, him, hget, hget2⟩ := idx_of (enc := encItem) i0 i1
    have hio := hi3 it him
    have his := hi2 it him
    obtain ⟨nm, bs, fs, qs⟩ := it
    simp only [encItem] at hget
    have hstr : IntKind.i64.wrap 0 = 0 := wrap_i64 (by decide) (by decide)
    have hxo : ∀ (t : Str) (y : Item), TextOk t → y.Ok → (Exam.mk t (items.set (around at' items.length).toNat y)).Ok := fun t y h1 h2 =>
      ⟨h1, by show (items.set _ y).length ≤ 16; rw [List.length_set]; omega, mem_set_ok hi3 h2 _⟩
    obtain ⟨k1, k2⟩ := around_ok hby (m := 4) (by decide)
    obtain ⟨k3, k4⟩ := around_ok hby (m := 6) (by decide)
    have h9 := around_sub (c := 1) hby (m := 9) (by decide) (by decide) (by decide) (by decide)
    have h10 := around_sub (c := 1) (wrap_ok (by'.tdiv 9)) (m := 10) (by decide) (by decide) (by decide) (by decide)
    simp only [go_sem, ↓bnd_eq, ↓reduceIte, NB, NA, NL, NE, IM, BT, encExam, ha at', ha how, hne2, hem, hhd, hrm, i0, i1, hget]
    refine branch_intro (fun hb => ?_) (fun hb => ?_)
    · obtain ⟨t, htm, htab⟩ := tabS [[], [31], [79, 116, 104, 101, 114], [34, 113, 34]] k1 k2
      simp only [List.map, encStr] at htab
      have htl : TextOk t := by
        have : ∀ s ∈ ([[], [31], [79, 116, 104, 101, 114], [34, 113, 34]] : List Str), TextOk s := by decide
        exact this t htm
      simp only [go_sem, ↓bnd_eq, ↓reduceIte, NB, NA, NL, ND, NE, ha by', k1, htab, i0, i1, hget, set_item, allStill_rows (dataLL_map data_item _), underLL_of_data (dataLL_map data_item _)]
      exact fin _ (hxo t _ htl hio) _ rfl
    simp only [go_sem, ↓bnd_eq, NB, IM]
    refine branch_intro (fun hb => ?_) (fun hb => ?_)
    · obtain ⟨t, htm, htab⟩ := tabS [[], [49, 97], [111, 116, 104, 101, 114], [85, 112, 112, 101, 114], [115, 101, 118, 101, 110, 116, 101, 101, 110, 108, 101, 116, 116, 101, 114, 115, 49], [97, 32, 98]] k3 k4
      simp only [List.map, encStr] at htab
      have htl : TextOk t := by
        have : ∀ s ∈ ([[], [49, 97], [111, 116, 104, 101, 114], [85, 112, 112, 101, 114], [115, 101, 118, 101, 110, 116, 101, 101, 110, 108, 101, 116, 116, 101, 114, 115, 49], [97, 32, 98]] : List Str), TextOk s := by decide
        exact this t htm
      simp only [go_sem, ↓bnd_eq, ↓reduceIte, NB, NA, NL, ND, NE, ha by', k3, htab, i0, i1, hget, set_item, allStill_rows (dataLL_map data_item _), underLL_of_data (dataLL_map data_item _)]
      exact fin _ (hxo title (Item.mk t bs fs qs) hx.title { hio with name := htl }) _ rfl
    simp only [go_sem, ↓bnd_eq, NB, IM]
    refine branch_intro (fun hb => ?_) (fun hb => ?_)
    · obtain ⟨t, htm, htab⟩ := tabI [0, 99, 100, -1] k1 k2
      simp only [List.map, encInt] at htab
      have htl : IntOk t := by
        have : ∀ s ∈ ([0, 99, 100, -1] : List Int), IntOk s := by decide
        exact this t htm
      have hq9 : ∀ ek, binV .quo ek (vi by') (vi 9) = some (vi (IntKind.i64.wrap (by'.tdiv 9))) := fun ek => bin_quo (by decide)
      have hfl := his.facts
      simp only at hfl
      have ho : (Item.mk nm bs (fs ++ [⟨around by' 9 - 1, around (IntKind.i64.wrap (by'.tdiv 9)) 10 - 1, t, 0⟩]) qs).Ok := { hio with lenF := by show (fs ++ [_]).length ≤ 16; rw [List.length_append]; simp; omega, facts := app_ok hio.facts ⟨h9.2, h10.2, htl, zero_ok⟩ }
      have hm : ∀ (l : List Fact) (a b c d : Int), l.map encFact ++ [[vi a, vi b, vi c, vi d]] = (l ++ [Fact.mk a b c d]).map encFact := fun l a b c d => by simp [encFact]
      by_cases hoe : fs = []
      · subst hoe
        have hset := set_item items (around at' items.length).toNat nm bs [⟨around by' 9 - 1, around (IntKind.i64.wrap (by'.tdiv 9)) 10 - 1, t, 0⟩] qs
        simp only [List.map_cons, List.map_nil, encFact] at hset
        simp only [go_sem, ↓bnd_eq, ↓reduceIte, NB, NA, NL, ND, NE, IM, BT, ha by', ha (IntKind.i64.wrap (by'.tdiv 9)), hq9, h9.1, h10.1, k1, htab, roomy_of, hset, i0, i1, hget, allStill_rows (dataLL_map data_item _), underLL_of_data (dataLL_map data_item _)]
        exact fin _ (hxo title _ hx.title ho) _ rfl
      · have hfe : (fs.map encFact).isEmpty = false := by cases fs with | nil => exact absurd rfl hoe | cons a r => rfl
        have hfh : headOk 4 (fs.map encFact) = true := by cases fs <;> rfl
        have hr1 : roomy fs.length 32 = true := roomy_of (by omega) (by decide)
        have hr2 : roomy (fs.length + 1) 32 = true := roomy_of (by omega) (by decide)
        simp only [go_sem, ↓bnd_eq, ↓reduceIte, NB, NA, NL, ND, NE, IM, BT, ha by', ha (IntKind.i64.wrap (by'.tdiv 9)), hq9, h9.1, h10.1, k1, htab, hfe, hfh, hr1, hr2, hm, allStill_rows (dataLL_map data_fact _), i0, i1, hget, set_item, allStill_rows (dataLL_map data_item _), underLL_of_data (dataLL_map data_item _)]
        exact fin _ (hxo title _ hx.title ho) _ rfl
    simp only [go_sem, ↓bnd_eq, NB]
    refine branch_intro (fun hb => ?_) (fun hb => ?_)
    · by_cases hoe : bs = []
      · subst hoe
        have hset := set_item items (around at' items.length).toNat nm [] fs qs
        rw [List.map_nil] at hset
        simp only [go_sem, ↓bnd_eq, ↓reduceIte, NB, NA, ND, hset, i0, i1, hget, allStill_rows (dataLL_map data_item _), underLL_of_data (dataLL_map data_item _)]
        exact fin _ (hxo title _ hx.title hio) _ rfl
      · have hbl := his.blocks
        simp only at hbl
        have hbp : 0 < bs.length := List.length_pos_iff.2 hoe
        have hfe : (bs.map encBlock).isEmpty = false := by cases bs with | nil => exact absurd rfl hoe | cons a r => rfl
        have hfh : headOk 13 (bs.map encBlock) = true := by cases bs with | nil => rfl | cons a r => rw [List.map_cons, headOk_cons, len_block]; rfl
        have hr1 : roomy bs.length 216 = true := roomy_of (by omega) (by decide)
        have hgt : decide ((bs.length : Int) > 0) = true := by simp; omega
        have hq3 : ∀ ek, binV .quo ek (vi at') (vi 3) = some (vi (IntKind.i64.wrap (at'.tdiv 3))) := fun ek => bin_quo (by decide)
        have hq6 : ∀ ek, binV .quo ek (vi how) (vi 6) = some (vi (IntKind.i64.wrap (how.tdiv 6))) := fun ek => bin_quo (by decide)
        obtain ⟨j0, j1⟩ := around_ok (wrap_ok (at'.tdiv 3)) (m := (bs.length : Int)) (by omega)
        obtain ⟨b, hbm, hgetb, hgetb2⟩ := idx_of (enc := encBlock) j0 j1
        simp only [go_sem, ↓bnd_eq, ↓reduceIte, NB, NA, NL, ND, NE, BT, ha (IntKind.i64.wrap (at'.tdiv 3)), hgt, hfe, hfh, hr1, hq3]
        refine wc_draw' (keep := dactylref23_Spoilt_k0) (by rfl) (by rfl) ?_
        simp only [go_sem, ↓bnd_eq, ↓reduceIte, NB, NA, ND, NE, dactylref23_Spoilt_k0, j0, j1, hgetb, hq6, len_block, take_block, lendL_of_data (data_block _), map_strip1_of_data (data_block _)]
        refine call_exD (hB (hio.blocks b hbm) (his.block b hbm) hby _) ?_
        rintro v2 H2 wr2 ⟨rfl, rfl, b1, rfl, hb1⟩
        have hset : ∀ b1, (bs.map encBlock).set (around (IntKind.i64.wrap (at'.tdiv 3)) bs.length).toNat (encBlock b1) = (bs.set (around (IntKind.i64.wrap (at'.tdiv 3)) bs.length).toNat b1).map encBlock := fun b1 => List.map_set.symm
        simp only [go_sem, ↓bnd_eq, ↓reduceIte, NB, NA, BF, j0, j1, hgetb, hset, len_block, drop_block, map_strip1_of_data (data_block _), allCellOk_of_data (data_block _), logOk, apartL, orderOk_intro, allStill_rows (dataLL_map data_block _), i0, i1, hget, set_item, allStill_rows (dataLL_map data_item _), underLL_of_data (dataLL_map data_item _)]
        exact fin _ (hxo title (Item.mk nm (bs.set (around (IntKind.i64.wrap (at'.tdiv 3)) bs.length).toNat b1) fs qs) hx.title { hio with lenB := by show (bs.set _ b1).length ≤ 16; rw [List.length_set]; omega, blocks := mem_set_ok hio.blocks hb1 _ }) _ rfl
    simp only [go_sem, ↓bnd_eq, NB]
    refine branch_intro (fun hb => ?_) (fun hb => ?_)
    · by_cases hoe : qs = []
      · subst hoe
        have hset := set_item items (around at' items.length).toNat nm bs fs []
        simp only [List.map_nil] at hset
        simp only [go_sem, ↓bnd_eq, ↓reduceIte, NB, NA, hset, i0, i1, hget, allStill_rows (dataLL_map data_item _), underLL_of_data (dataLL_map data_item _)]
        exact fin _ (hxo title _ hx.title hio) _ rfl
      · have hbl := his.ask
        simp only at hbl
        have hbp : 0 < qs.length := List.length_pos_iff.2 hoe
        have hfe : (qs.map encQ).isEmpty = false := by cases qs with | nil => exact absurd rfl hoe | cons a r => rfl
        have hfh : headOk 7 (qs.map encQ) = true := by cases qs <;> rfl
        have hr1 : roomy qs.length 128 = true := roomy_of (by omega) (by decide)
        have hgt : decide ((qs.length : Int) > 0) = true := by simp; omega
        have hq3 : ∀ ek, binV .quo ek (vi at') (vi 3) = some (vi (IntKind.i64.wrap (at'.tdiv 3))) := fun ek => bin_quo (by decide)
        have hq6 : ∀ ek, binV .quo ek (vi how) (vi 6) = some (vi (IntKind.i64.wrap (how.tdiv 6))) := fun ek => bin_quo (by decide)
        obtain ⟨j0, j1⟩ := around_ok (wrap_ok (at'.tdiv 3)) (m := (qs.length : Int)) (by omega)
        obtain ⟨q, hqm, hgetb, hgetb2⟩ := idx_of (enc := encQ) j0 j1
        simp only [go_sem, ↓bnd_eq, ↓reduceIte, NB, NA, NL, NE, BT, ha (IntKind.i64.wrap (at'.tdiv 3)), hgt, hfe, hfh, hr1, hq3]
        refine wc_draw' (keep := dactylref23_Spoilt_k1) (by rfl) (by rfl) ?_
        simp only [go_sem, ↓bnd_eq, ↓reduceIte, NB, NA, NE, dactylref23_Spoilt_k1, j0, j1, hgetb, hq6, len_q, take_q, lendL_of_data (data_q _), map_strip1_of_data (data_q _)]
        refine call_exD (hQ (hio.ask q hqm) (his.question q hqm) hby _) ?_
        rintro v2 H2 wr2 ⟨rfl, rfl, q1, rfl, hq1⟩
        have hset : ∀ q1, (qs.map encQ).set (around (IntKind.i64.wrap (at'.tdiv 3)) qs.length).toNat (encQ q1) = (qs.set (around (IntKind.i64.wrap (at'.tdiv 3)) qs.length).toNat q1).map encQ := fun q1 => List.map_set.symm
        simp only [go_sem, ↓bnd_eq, ↓reduceIte, NB, NA, BF, j0, j1, hgetb, hset, len_q, drop_q, map_strip1_of_data (data_q _), allCellOk_of_data (data_q _), logOk, apartL, orderOk_intro, allStill_rows (dataLL_map data_q _), i0, i1, hget, set_item, allStill_rows (dataLL_map data_item _), underLL_of_data (dataLL_map data_item _)]
        exact fin _ (hxo title (Item.mk nm bs fs (qs.set (around (IntKind.i64.wrap (at'.tdiv 3)) qs.length).toNat q1)) hx.title { hio with lenA := by show (qs.set _ q1).length ≤ 16; rw [List.length_set]; omega, ask := mem_set_ok hio.ask hq1 _ }) _ rfl
    · have hr1 : roomy (items.length + 1) 88 = true := roomy_of (by omega) (by decide)
      have happ : items.map encItem ++ [[.str nm, .sl false (bs.map encBlock), .sl false (fs.map encFact), .sl false (qs.map encQ)]] = (items ++ [Item.mk nm bs fs qs]).map encItem := by simp [encItem]
      have hget3 : ((items ++ [Item.mk nm bs fs qs]).map encItem)[(around at' items.length).toNat]? = some [.str nm, .sl false (bs.map encBlock), .sl false (fs.map encFact), .sl false (qs.map encQ)] := by
        rw [List.map_append, List.getElem?_append_left (by simp; omega)]; exact hget
      have i2 : around at' items.length < ((items.length + 1 : Nat) : Int) := by omega
      simp only [go_sem, ↓bnd_eq, ↓reduceIte, NB, NA, NL, NE, BT, hr1, happ, hget3, i2, i0, set_item, allStill_rows (dataLL_map data_item _), underLL_of_data (dataLL_map data_item _)]
      exact fin ⟨title, (items ++ [Item.mk nm bs fs qs]).set (around at' items.length).toNat (Item.mk nm bs fs qs)⟩ ⟨hx.title, by show (List.set _ _ _).length ≤ 16; rw [List.length_set]; simp; omega, mem_set_ok (app_ok hi3 hio) hio _⟩ _ rfl
end Go.Proofs.AM
end
section
open Nat renaming reduceBEq → NB, reduceAdd → NA, reduceSub → NS, reduceMul → NM, reduceLT → NL, reduceLeDiff → ND, reduceEqDiff → NE
open Int renaming reduceLT → IL, reduceLE → ID, reduceToNat → IT, reduceEq → IE, reduceBEq → IB, reduceBNe → IN, reduceAdd → IA, reduceSub → IS, reduceNeg → IM
open Bool renaming not_true → BT, not_false → BF
set_option linter.unusedVariables false
set_option maxRecDepth 8000
namespace Go.Proofs.AM
open Go
abbrev dactylref31_Open_d0 (g : String → Nat) : List AOper := [⟨some 91, .fa 2 (.tmp 11), none, []⟩,⟨some 92, .load 1 false (.tmp 91), none, [0]⟩,⟨some 93, .mov (.tmp 1), none, []⟩,⟨some 94, .bin .quo .no (.tmp 93) (.const (.int .i64 9)), none, [2]⟩,⟨some 95, .fa 2 (.tmp 11), none, []⟩,⟨some 96, .load 1 false (.tmp 95), none, [4]⟩,⟨some 97, .lenV (.tmp 96), none, [5, 4]⟩,⟨some 98, .callv (.const (.fn (g "dactyl/dactylref01.Around") [] [])) [(.tmp 94), (.tmp 97)], none, [3, 2, 6, 5, 4]⟩,⟨some 99, .iaV (.tmp 92) (.tmp 98) 1, none, [1, 0, 7, 3, 2, 6, 5, 4]⟩,⟨none, .store 1 (.tmp 99) (.const (.str [111, 116, 104, 101, 114])), none, [8, 1, 0, 7, 3, 2, 6, 5, 4]⟩]
abbrev dactylref31_Open_k0 : List Nat := [1, 7]
abbrev dactylref31_Open_d1 (g : String → Nat) : List AOper := [⟨some 109, .fa 1 (.tmp 11), none, []⟩,⟨some 110, .load 1 false (.tmp 109), none, [0]⟩,⟨some 111, .fa 1 (.tmp 11), none, []⟩,⟨some 112, .load 1 false (.tmp 111), none, [2]⟩,⟨some 113, .iaV (.tmp 112) (.const (.int .i64 0)) 2, none, [3, 2]⟩,⟨some 114, .fa 1 (.tmp 113), none, [4, 3, 2]⟩,⟨some 115, .load 1 false (.tmp 114), none, [5, 4, 3, 2]⟩,⟨some 116, .bin .add .no (.tmp 115) (.const (.str [122])), none, [6, 5, 4, 3, 2]⟩,⟨some 117, .iaV (.tmp 110) (.const (.int .i64 0)) 2, none, [1, 0, 7, 6, 5, 4, 3, 2]⟩,⟨some 118, .fa 1 (.tmp 117), none, [8, 1, 0, 7, 6, 5, 4, 3, 2]⟩,⟨none, .store 1 (.tmp 118) (.tmp 116), none, [9, 8, 1, 0, 7, 6, 5, 4, 3, 2]⟩]
abbrev dactylref31_Open_k1 : List Nat := []
def dactylref31_Open (g : String → Nat) : AFn := ⟨130, [3, 6, 7, 19, 9, 70, 11, 89, 103], [.cell 6 2 true],
  .seq (.region false [⟨some 3, .box 2 (.tmp 0), none, []⟩,
    ⟨some 6, .alloc [(.str []), (.sl true [])], none, []⟩]) <|
  .seq (.region false [⟨some 12, .fa 0 (.tmp 3), none, []⟩,
    ⟨some 13, .load 1 false (.tmp 12), none, [0]⟩,
    ⟨some 14, .build [(.str []), (.sl true [])] [(0, 1, (.tmp 13))], none, [1, 0]⟩,
    ⟨some 7, .alloc [(.str []), (.sl true [])], none, []⟩,
    ⟨none, .store 2 (.tmp 7) (.tmp 14), none, [2, 1, 0, 3]⟩]) <|
  .seq (.region false [⟨some 15, .fa 1 (.tmp 7), none, []⟩,
    ⟨some 16, .load 1 false (.tmp 15), none, [0]⟩,
    ⟨some 17, .fa 1 (.tmp 3), none, []⟩,
    ⟨some 18, .load 1 false (.tmp 17), none, [2]⟩,
    ⟨some 19, .app 4 88 (.tmp 16) (.tmp 18), none, [1, 0, 3, 2]⟩,
    ⟨some 20, .fa 1 (.tmp 7), none, [4, 1, 0, 3, 2]⟩,
    ⟨none, .store 1 (.tmp 20) (.tmp 19), none, [5, 4, 1, 0, 3, 2]⟩]) <|
  .seq (.seq (.region false [⟨some 21, .mov (.tmp 2), none, []⟩,
    ⟨some 22, .callv (.const (.fn (g "dactyl/dactylref01.Around") [] [])) [(.tmp 21), (.const (.int .i64 4))], none, [0]⟩,
    ⟨some 23, .bin .eql .no (.tmp 22) (.const (.int .i64 0)), none, [1, 0]⟩,
    ⟨some 24, .mov (.tmp 23), none, [2, 1, 0]⟩,
    ⟨some 25, .fa 1 (.tmp 7), some (some 24, false), [3, 2, 1, 0]⟩,
    ⟨some 26, .load 1 false (.tmp 25), some (some 24, false), [4, 3, 2, 1, 0]⟩,
    ⟨some 27, .lenV (.tmp 26), some (some 24, false), [5, 4, 3, 2, 1, 0]⟩,
    ⟨some 28, .bin .eql .no (.tmp 27) (.const (.int .i64 0)), some (some 24, false), [6, 5, 4, 3, 2, 1, 0]⟩,
    ⟨some 29, .pick (.tmp 24) (.const (.bool true)) (.tmp 28), none, [7, 6, 5, 4, 3, 2, 1, 0]⟩]) <|
  .cond (.tmp 29) (.seq (.region false [⟨some 30, .fa 0 (.tmp 7), none, []⟩,
      ⟨some 31, .load 1 false (.tmp 30), none, [0]⟩,
      ⟨some 32, .bin .add .no (.tmp 31) (.const (.str [122])), none, [1, 0]⟩,
      ⟨some 33, .fa 0 (.tmp 7), none, [2, 1, 0]⟩,
      ⟨none, .store 1 (.tmp 33) (.tmp 32), none, [3, 2, 1, 0]⟩]) <|
    .seq (.region false [⟨some 34, .load 2 true (.tmp 7), none, []⟩,
      ⟨none, .store 2 (.tmp 6) (.tmp 34), none, [0]⟩]) <|
    .ret)
    (.skip)) <|
  .seq (.region false [⟨some 35, .mov (.tmp 1), none, []⟩,
    ⟨some 36, .fa 1 (.tmp 7), none, []⟩,
    ⟨some 37, .load 1 false (.tmp 36), none, [1]⟩,
    ⟨some 38, .lenV (.tmp 37), none, [2, 1]⟩,
    ⟨some 39, .callv (.const (.fn (g "dactyl/dactylref01.Around") [] [])) [(.tmp 35), (.tmp 38)], none, [0, 3, 2, 1]⟩,
    ⟨some 8, .mov (.tmp 39), none, [4, 0, 3, 2, 1]⟩]) <|
  .seq (.region false [⟨some 40, .fa 1 (.tmp 7), none, []⟩,
    ⟨some 41, .load 1 false (.tmp 40), none, [0]⟩,
    ⟨some 42, .mov (.tmp 8), none, []⟩,
    ⟨some 43, .iaV (.tmp 41) (.tmp 42) 4, none, [1, 0, 2]⟩,
    ⟨some 44, .load 4 true (.tmp 43), none, [3, 1, 0, 2]⟩,
    ⟨some 9, .alloc [(.str []), (.sl true []), (.sl true []), (.sl true [])], none, []⟩,
    ⟨none, .store 4 (.tmp 9) (.tmp 44), none, [4, 3, 1, 0, 2, 5]⟩]) <|
  .seq (.seq (.region false [⟨some 45, .mov (.tmp 2), none, []⟩,
    ⟨some 46, .callv (.const (.fn (g "dactyl/dactylref01.Around") [] [])) [(.tmp 45), (.const (.int .i64 4))], none, [0]⟩,
    ⟨some 47, .bin .eql .no (.tmp 46) (.const (.int .i64 1)), none, [1, 0]⟩,
    ⟨some 48, .mov (.tmp 47), none, [2, 1, 0]⟩,
    ⟨some 49, .fa 3 (.tmp 9), some (some 48, false), [3, 2, 1, 0]⟩,
    ⟨some 50, .load 1 false (.tmp 49), some (some 48, false), [4, 3, 2, 1, 0]⟩,
    ⟨some 51, .lenV (.tmp 50), some (some 48, false), [5, 4, 3, 2, 1, 0]⟩,
    ⟨some 52, .bin .eql .no (.tmp 51) (.const (.int .i64 0)), some (some 48, false), [6, 5, 4, 3, 2, 1, 0]⟩,
    ⟨some 53, .pick (.tmp 48) (.const (.bool true)) (.tmp 52), none, [7, 6, 5, 4, 3, 2, 1, 0]⟩]) <|
  .cond (.tmp 53) (.seq (.region false [⟨some 54, .fa 0 (.tmp 9), none, []⟩,
      ⟨none, .store 1 (.tmp 54) (.const (.str [111, 116, 104, 101, 114])), none, [0]⟩]) <|
    .seq (.region false [⟨some 55, .fa 1 (.tmp 7), none, []⟩,
      ⟨some 56, .load 1 false (.tmp 55), none, [0]⟩,
      ⟨some 57, .mov (.tmp 8), none, []⟩,
      ⟨some 58, .load 4 true (.tmp 9), none, []⟩,
      ⟨some 59, .iaV (.tmp 56) (.tmp 57) 4, none, [1, 0, 2, 3]⟩,
      ⟨none, .store 4 (.tmp 59) (.tmp 58), none, [4, 1, 0, 2, 3]⟩]) <|
    .seq (.region false [⟨some 60, .load 2 true (.tmp 7), none, []⟩,
      ⟨none, .store 2 (.tmp 6) (.tmp 60), none, [0]⟩]) <|
    .ret)
    (.skip)) <|
  .seq (.region false [⟨some 61, .mov (.tmp 1), none, []⟩,
    ⟨some 62, .bin .quo .no (.tmp 61) (.const (.int .i64 3)), none, [0]⟩,
    ⟨some 63, .fa 3 (.tmp 9), none, []⟩,
    ⟨some 64, .load 1 false (.tmp 63), none, [2]⟩,
    ⟨some 65, .lenV (.tmp 64), none, [3, 2]⟩,
    ⟨some 66, .callv (.const (.fn (g "dactyl/dactylref01.Around") [] [])) [(.tmp 62), (.tmp 65)], none, [1, 0, 4, 3, 2]⟩,
    ⟨some 10, .mov (.tmp 66), none, [5, 1, 0, 4, 3, 2]⟩]) <|
  .seq (.region false [⟨some 67, .bsl 7 [(.int .i64 0), (.sl false []), (.sl false []), (.sl false []), (.str []), (.int .i64 0), (.sl false [])] 0 [], none, []⟩,
    ⟨some 68, .fa 3 (.tmp 9), none, []⟩,
    ⟨some 69, .load 1 false (.tmp 68), none, [1]⟩,
    ⟨some 70, .app 7 128 (.tmp 67) (.tmp 69), none, [0, 2, 1]⟩,
    ⟨some 71, .fa 3 (.tmp 9), none, [3, 0, 2, 1]⟩,
    ⟨none, .store 1 (.tmp 71) (.tmp 70), none, [4, 3, 0, 2, 1]⟩]) <|
  .seq (.region false [⟨some 72, .fa 3 (.tmp 9), none, []⟩,
    ⟨some 73, .load 1 false (.tmp 72), none, [0]⟩,
    ⟨some 74, .mov (.tmp 10), none, []⟩,
    ⟨some 75, .iaV (.tmp 73) (.tmp 74) 7, none, [1, 0, 2]⟩,
    ⟨some 76, .load 7 true (.tmp 75), none, [3, 1, 0, 2]⟩,
    ⟨some 11, .alloc [(.int .i64 0), (.sl true []), (.sl true []), (.sl true []), (.str []), (.int .i64 0), (.sl true [])], none, []⟩,
    ⟨none, .store 7 (.tmp 11) (.tmp 76), none, [4, 3, 1, 0, 2, 5]⟩]) <|
  .seq (.seq (.region false [⟨some 77, .mov (.tmp 2), none, []⟩,
    ⟨some 78, .callv (.const (.fn (g "dactyl/dactylref01.Around") [] [])) [(.tmp 77), (.const (.int .i64 4))], none, [0]⟩,
    ⟨some 79, .bin .eql .no (.tmp 78) (.const (.int .i64 2)), none, [1, 0]⟩,
    ⟨some 80, .mov (.tmp 79), none, [2, 1, 0]⟩,
    ⟨some 81, .fa 2 (.tmp 11), some (some 80, true), [3, 2, 1, 0]⟩,
    ⟨some 82, .load 1 false (.tmp 81), some (some 80, true), [4, 3, 2, 1, 0]⟩,
    ⟨some 83, .lenV (.tmp 82), some (some 80, true), [5, 4, 3, 2, 1, 0]⟩,
    ⟨some 84, .bin .gtr .no (.tmp 83) (.const (.int .i64 0)), some (some 80, true), [6, 5, 4, 3, 2, 1, 0]⟩,
    ⟨some 85, .pick (.tmp 80) (.tmp 84) (.const (.bool false)), none, [7, 6, 5, 4, 3, 2, 1, 0]⟩]) <|
  .cond (.tmp 85) (.seq (.region false [⟨some 86, .bsl 1 [(.str [])] 0 [], none, []⟩,
      ⟨some 87, .fa 2 (.tmp 11), none, []⟩,
      ⟨some 88, .load 1 false (.tmp 87), none, [1]⟩,
      ⟨some 89, .app 1 16 (.tmp 86) (.tmp 88), none, [0, 2, 1]⟩,
      ⟨some 90, .fa 2 (.tmp 11), none, [3, 0, 2, 1]⟩,
      ⟨none, .store 1 (.tmp 90) (.tmp 89), none, [4, 3, 0, 2, 1]⟩]) <|
    .region true (dactylref31_Open_d0 g))
    (.seq (.region false [⟨some 100, .bsl 2 [(.int .i64 0), (.str [])] 0 [], none, []⟩,
      ⟨some 101, .fa 1 (.tmp 11), none, []⟩,
      ⟨some 102, .load 1 false (.tmp 101), none, [1]⟩,
      ⟨some 103, .app 2 24 (.tmp 100) (.tmp 102), none, [0, 2, 1]⟩,
      ⟨some 104, .fa 1 (.tmp 11), none, [3, 0, 2, 1]⟩,
      ⟨none, .store 1 (.tmp 104) (.tmp 103), none, [4, 3, 0, 2, 1]⟩]) <|
    .seq (.region false [⟨some 105, .fa 1 (.tmp 11), none, []⟩,
      ⟨some 106, .load 1 false (.tmp 105), none, [0]⟩,
      ⟨some 107, .lenV (.tmp 106), none, [1, 0]⟩,
      ⟨some 108, .bin .gtr .no (.tmp 107) (.const (.int .i64 0)), none, [2, 1, 0]⟩]) <|
    .cond (.tmp 108) (.region true (dactylref31_Open_d1 g))
      (.skip))) <|
  .seq (.seq (.frz [(7, 11)]) <|
  .region false [⟨some 119, .fa 3 (.tmp 9), none, []⟩,
    ⟨some 120, .load 1 false (.tmp 119), none, [0]⟩,
    ⟨some 121, .mov (.tmp 10), none, []⟩,
    ⟨some 122, .load 7 true (.tmp 11), none, []⟩,
    ⟨some 123, .iaV (.tmp 120) (.tmp 121) 7, none, [1, 0, 2, 3]⟩,
    ⟨none, .store 7 (.tmp 123) (.tmp 122), none, [4, 1, 0, 2, 3]⟩]) <|
  .seq (.seq (.frz [(4, 9)]) <|
  .region false [⟨some 124, .fa 1 (.tmp 7), none, []⟩,
    ⟨some 125, .load 1 false (.tmp 124), none, [0]⟩,
    ⟨some 126, .mov (.tmp 8), none, []⟩,
    ⟨some 127, .load 4 true (.tmp 9), none, []⟩,
    ⟨some 128, .iaV (.tmp 125) (.tmp 126) 4, none, [1, 0, 2, 3]⟩,
    ⟨none, .store 4 (.tmp 128) (.tmp 127), none, [4, 1, 0, 2, 3]⟩]) <|
  .seq (.region false [⟨some 129, .load 2 true (.tmp 7), none, []⟩,
    ⟨none, .store 2 (.tmp 6) (.tmp 129), none, [0]⟩]) <|
  .ret⟩
theorem set_ask (L : List Question) (k : Nat) (kd : Int) (st : List Run) (op : List Str) (nd : List Int) (key : Str) (p : Int) (rs : List Str) :
    (L.map encQ).set k [vi kd, .sl false (st.map encRun), .sl false (op.map encStr), .sl false (nd.map encInt), .str key, vi p, .sl false (rs.map encStr)] = (L.set k (Question.mk kd st op nd key p rs)).map encQ :=
  (List.map_set (f := encQ) (l := L) (i := k) (a := Question.mk kd st op nd key p rs)).symm
set_option maxHeartbeats 6400000 in
theorem open_spec {A : AProg} {g : String → Nat} (h : Has A g "dactyl/dactylref31.Open" (dactylref31_Open g)) (ha : SpecAround A g)
    {x : Exam} (hx : x.Ok) (hs : XSlack x) {at' how : Int} (hat : IntOk at') (hhow : IntOk how) (H : List AObj) :
    ∃ v H' wr, callI A (g "dactyl/dactylref31.Open") [encExam x, vi at', vi how] H = some (v, H', wr) ∧ (H' = H ∧ wr = [] ∧ IsExam' v) := by
  refine h.callEx (by simp [dactylref31_Open]) (by kernel_rfl) ?_
  obtain ⟨title, items⟩ := x
  have ht1 := hs.title
  have hi1 := hs.items
  have hi2 := hs.item
  have hi3 := hx.items
  simp only at ht1 hi1 hi2 hi3
  have fin : ∀ x1 : Exam, x1.Ok → ∀ v : AV, v = encExam x1 → IsExam' v := fun x1 h v e => ⟨x1, e, h⟩
  simp only [dactylref31_Open]
  have hadd : ∀ ek, binV .add ek (.str title) (.str [122]) = some (.str (title ++ [122])) := fun ek => bin_addS (by simp; omega)
  obtain ⟨c0, c1⟩ := around_ok hhow (m := 4) (by decide)
  have htz : TextOk (title ++ [122]) := by show (title ++ [122]).length ≤ 1000; simp; omega
  by_cases hit : items = []
  · subst hit
    have hc : around how 4 = 0 ∨ around how 4 = 1 ∨ around how 4 = 2 ∨ around how 4 = 3 := by omega
    rcases hc with hc | hc | hc | hc <;>
    · simp only [go_sem, ↓bnd_eq, ↓reduceIte, NB, NA, NL, ND, NE, IB, BT, encExam, ha how, hc, hadd]
      exact fin ⟨title ++ [122], []⟩ ⟨htz, by simp, by simp⟩ _ rfl
  have hlp : 0 < items.length := List.length_pos_iff.2 hit
  have hne2 : (((items.length : Nat) : Int) == 0) = false := by simp; omega
  have hem : (items.map encItem).isEmpty = false := by cases items with | nil => exact absurd rfl hit | cons a r => rfl
  have hhd : headOk 4 (items.map encItem) = true := by cases items <;> rfl
  have hrm : roomy items.length 88 = true := roomy_of (by omega) (by decide)
  obtain ⟨i0, i1⟩ := around_ok hat (m := (items.length : Int)) (by omega)
  obtain ⟨it, him, hget, hget2⟩ := idx_of (enc := encItem) i0 i1
  have hio := hi3 it him
  have his := hi2 it him
  obtain ⟨nm, bs, fs, qs⟩ := it
  simp only [encItem] at hget
  have hxo : ∀ (t : Str) (y : Item), TextOk t → y.Ok → (Exam.mk t (items.set (around at' items.length).toNat y)).Ok := fun t y h1 h2 =>
    ⟨h1, by show (items.set _ y).length ≤ 16; rw [List.length_set]; omega, mem_set_ok hi3 h2 _⟩
  have hnok : (Item.mk [111, 116, 104, 101, 114] bs fs qs).Ok := { hio with name := by show 5 ≤ 1000; decide }
  by_cases hc0 : around how 4 = 0
  · simp only [go_sem, ↓bnd_eq, ↓reduceIte, NB, NA, NL, ND, NE, BT, encExam, ha how, hc0, hadd, hem, hhd, hrm, allStill_rows (dataLL_map data_item _), underLL_of_data (dataLL_map data_item _)]
    exact fin ⟨title ++ [122], items⟩ { hx with title := htz } _ rfl
  have hb0 := bne_of hc0
  by_cases hc1 : around how 4 = 1
  · simp only [go_sem, ↓bnd_eq, ↓reduceIte, NB, NA, NL, ND, NE, IB, BT, encExam, ha how, ha at', hc1, hne2, hem, hhd, hrm, i0, i1, hget, set_item, allStill_rows (dataLL_map data_item _), underLL_of_data (dataLL_map data_item _)]
    exact fin _ (hxo title _ hx.title hnok) _ rfl
  have hb1 := bne_of hc1
  by_cases hq : qs = []
  · subst hq
    have hset := set_item items (around at' items.length).toNat [111, 116, 104, 101, 114] bs fs []
    simp only [List.map_nil] at hset
    simp only [go_sem, ↓bnd_eq, ↓reduceIte, NB, NA, NL, ND, NE, BT, encExam, ha how, ha at', hb0, hb1, hne2, hem, hhd, hrm, i0, i1, hget, hset, allStill_rows (dataLL_map data_item _), underLL_of_data (dataLL_map data_item _)]
    exact fin _ (hxo title _ hx.title hnok) _ rfl
  have hql := his.ask
  simp only at hql
  have hqp : 0 < qs.length := List.length_pos_iff.2 hq
  have hqn : (((qs.length : Nat) : Int) == 0) = false := by simp; omega
  have hqe : (qs.map encQ).isEmpty = false := by cases qs with | nil => exact absurd rfl hq | cons a r => rfl
  have hqh : headOk 7 (qs.map encQ) = true := by cases qs <;> rfl
  have hqr : roomy qs.length 128 = true := roomy_of (by omega) (by decide)
  have hq3 : ∀ ek, binV .quo ek (vi at') (vi 3) = some (vi (IntKind.i64.wrap (at'.tdiv 3))) := fun ek => bin_quo (by decide)
  have hq9 : ∀ ek, binV .quo ek (vi at') (vi 9) = some (vi (IntKind.i64.wrap (at'.tdiv 9))) := fun ek => bin_quo (by decide)
  obtain ⟨j0, j1⟩ := around_ok (wrap_ok (at'.tdiv 3)) (m := (qs.length : Int)) (by omega)
  obtain ⟨q, hqm, hgetq, hgetq2⟩ := idx_of (enc := encQ) j0 j1
  have hqo := hio.ask q hqm
  have hqs := his.question q hqm
  obtain ⟨kd, st, op, nd, key, p, rs⟩ := q
  simp only [encQ] at hgetq
  have hfo : ∀ q : Question, q.Ok → (Item.mk nm bs fs (qs.set (around (IntKind.i64.wrap (at'.tdiv 3)) qs.length).toNat q)).Ok := fun q hq =>
    { hio with lenA := by show (qs.set _ q).length ≤ 16; rw [List.length_set]; omega, ask := mem_set_ok hio.ask hq _ }
  by_cases hc2 : around how 4 = 2 ∧ op ≠ []
  · obtain ⟨hc2, hop⟩ := hc2
    have hol := hqs.opts
    simp only at hol
    have hop1 : 0 < op.length := List.length_pos_iff.2 hop
    have hoe : (op.map encStr).isEmpty = false := by cases op with | nil => exact absurd rfl hop | cons a r => rfl
    have hoh : headOk 1 (op.map encStr) = true := by cases op <;> rfl
    have hor : roomy op.length 16 = true := roomy_of (by omega) (by decide)
    have hgt : decide ((op.length : Int) > 0) = true := by simp; omega
    obtain ⟨l0, l1⟩ := around_ok (wrap_ok (at'.tdiv 9)) (m := (op.length : Int)) (by omega)
    obtain ⟨o1, hom, hgeto, _⟩ := idx_of (enc := encStr) l0 l1
    have hset : (op.map encStr).set (around (IntKind.i64.wrap (at'.tdiv 9)) op.length).toNat [.str [111, 116, 104, 101, 114]] = (op.set (around (IntKind.i64.wrap (at'.tdiv 9)) op.length).toNat [111, 116, 104, 101, 114]).map encStr :=
      (List.map_set (f := encStr) (a := [111, 116, 104, 101, 114])).symm
    simp only [go_sem, ↓bnd_eq, ↓reduceIte, NB, NA, NL, ND, NE, IB, BT, encExam, ha how, ha at', ha (IntKind.i64.wrap (at'.tdiv 3)), hc2, hne2, hem, hhd, hrm, i0, i1, hget, hqn, hqe, hqh, hqr, hq3, j0, j1, hgetq, hoe, hoh, hor, hgt]
    refine wc_draw' (keep := dactylref31_Open_k0) (by rfl) (by rfl) ?_
    simp only [go_sem, ↓bnd_eq, ↓reduceIte, NB, NA, ND, NE, BF, dactylref31_Open_k0, hq9, ha (IntKind.i64.wrap (at'.tdiv 9)), l0, l1, hgeto, encStr, hset, logOk, apartL, orderOk_intro, i0, i1, hget, j0, j1, hgetq, set_ask, set_item, allStill_rows (dataLL_map data_str _), allStill_rows (dataLL_map data_q _), allStill_rows (dataLL_map data_item _), underLL_of_data (dataLL_map data_item _)]
    exact fin _ (hxo title _ hx.title (hfo (Question.mk kd st (op.set (around (IntKind.i64.wrap (at'.tdiv 9)) op.length).toNat [111, 116, 104, 101, 114]) nd key p rs) { hqo with lenO := by show (op.set _ _).length ≤ 16; rw [List.length_set]; omega, options := mem_set_ok hqo.options (by show 5 ≤ 1000; decide) _ })) _ rfl
  have hstl := hqo.lenS
  simp only at hstl
  have hcase : (around how 4 = 2 ∧ op = []) ∨ around how 4 = 3 := by
    by_cases h2 : around how 4 = 2
    · exact .inl ⟨h2, Classical.byContradiction fun hne => hc2 ⟨h2, hne⟩⟩
    · exact .inr (by omega)
  by_cases hst : st = []
  · subst hst
    have hsa := set_ask qs (around (IntKind.i64.wrap (at'.tdiv 3)) qs.length).toNat kd [] op nd key p rs
    have hsa2 := set_ask qs (around (IntKind.i64.wrap (at'.tdiv 3)) qs.length).toNat kd [] [] nd key p rs
    simp only [List.map_nil] at hsa hsa2
    rcases hcase with ⟨h2, hop⟩ | h3
    · subst hop
      simp only [go_sem, ↓bnd_eq, ↓reduceIte, NB, NA, NL, ND, NE, IB, BT, encExam, ha how, ha at', ha (IntKind.i64.wrap (at'.tdiv 3)), h2, hne2, hem, hhd, hrm, i0, i1, hget, hqn, hqe, hqh, hqr, hq3, j0, j1, hgetq, hsa2, set_item, allStill_rows (dataLL_map data_q _), allStill_rows (dataLL_map data_item _), underLL_of_data (dataLL_map data_item _)]
      exact fin _ (hxo title _ hx.title (hfo _ hqo)) _ rfl
    · simp only [go_sem, ↓bnd_eq, ↓reduceIte, NB, NA, NL, ND, NE, IB, BT, encExam, ha how, ha at', ha (IntKind.i64.wrap (at'.tdiv 3)), h3, hne2, hem, hhd, hrm, i0, i1, hget, hqn, hqe, hqh, hqr, hq3, j0, j1, hgetq, hsa, set_item, allStill_rows (dataLL_map data_q _), allStill_rows (dataLL_map data_item _), underLL_of_data (dataLL_map data_item _)]
      exact fin _ (hxo title _ hx.title (hfo _ hqo)) _ rfl
  · have hse : (st.map encRun).isEmpty = false := by cases st with | nil => exact absurd rfl hst | cons a r => rfl
    have hsh : headOk 2 (st.map encRun) = true := by cases st <;> rfl
    have hsr : roomy st.length 24 = true := roomy_of (by omega) (by decide)
    have hstp : 0 < st.length := List.length_pos_iff.2 hst
    have hgt : decide ((st.length : Int) > 0) = true := by simp; omega
    have hsp : (0 : Int) < (st.length : Int) := by omega
    obtain ⟨⟨lg, tx⟩, hrm', hget0, _⟩ := idx_of (enc := encRun) (l := st) (n := 0) (by decide) (by omega)
    simp only [encRun, Int.toNat_zero] at hget0
    have htx := hqs.stem _ hrm'
    simp only at htx
    have hadd2 : ∀ ek, binV .add ek (.str tx) (.str [122]) = some (.str (tx ++ [122])) := fun ek => bin_addS (by simp; omega)
    have hset : (st.map encRun).set 0 [vi lg, .str (tx ++ [122])] = (st.set 0 ⟨lg, tx ++ [122]⟩).map encRun := (List.map_set (f := encRun) (a := ⟨lg, tx ++ [122]⟩)).symm
    have hrok : (Run.mk lg (tx ++ [122])).Ok := ⟨(hqo.stem _ hrm').lang, by show (tx ++ [122]).length ≤ 1000; simp; omega⟩
    have hqok : (Question.mk kd (st.set 0 ⟨lg, tx ++ [122]⟩) op nd key p rs).Ok := { hqo with lenS := by show (st.set _ _).length ≤ 16; rw [List.length_set]; omega, stem := mem_set_ok hqo.stem hrok _ }
    rcases hcase with ⟨h2, hop⟩ | h3
    · subst hop
      have hsa2 := set_ask qs (around (IntKind.i64.wrap (at'.tdiv 3)) qs.length).toNat kd (st.set 0 ⟨lg, tx ++ [122]⟩) [] nd key p rs
      simp only [List.map_nil] at hsa2
      simp only [go_sem, ↓bnd_eq, ↓reduceIte, NB, NA, NL, ND, NE, IB, BT, encExam, ha how, ha at', ha (IntKind.i64.wrap (at'.tdiv 3)), h2, hne2, hem, hhd, hrm, i0, i1, hget, hqn, hqe, hqh, hqr, hq3, j0, j1, hgetq, hse, hsh, hsr, hgt]
      refine wc_draw' (keep := dactylref31_Open_k1) (by rfl) (by rfl) ?_
      simp only [go_sem, ↓bnd_eq, ↓reduceIte, NB, NA, ND, ID, IT, dactylref31_Open_k1, hsp, hget0, hadd2, hset, i0, i1, hget, j0, j1, hgetq, hsa2, set_item, allStill_rows (dataLL_map data_run _), allStill_rows (dataLL_map data_q _), allStill_rows (dataLL_map data_item _), underLL_of_data (dataLL_map data_item _)]
      exact fin _ (hxo title _ hx.title (hfo _ hqok)) _ rfl
    · simp only [go_sem, ↓bnd_eq, ↓reduceIte, NB, NA, NL, ND, NE, IB, BT, encExam, ha how, ha at', ha (IntKind.i64.wrap (at'.tdiv 3)), h3, hne2, hem, hhd, hrm, i0, i1, hget, hqn, hqe, hqh, hqr, hq3, j0, j1, hgetq, hse, hsh, hsr, hgt]
      refine wc_draw' (keep := dactylref31_Open_k1) (by rfl) (by rfl) ?_
      simp only [go_sem, ↓bnd_eq, ↓reduceIte, NB, NA, ND, ID, IT, dactylref31_Open_k1, hsp, hget0, hadd2, hset, i0, i1, hget, j0, j1, hgetq, set_ask, set_item, allStill_rows (dataLL_map data_run _), allStill_rows (dataLL_map data_q _), allStill_rows (dataLL_map data_item _), underLL_of_data (dataLL_map data_item _)]
      exact fin _ (hxo title _ hx.title (hfo _ hqok)) _ rfl
end Go.Proofs.AM
end
