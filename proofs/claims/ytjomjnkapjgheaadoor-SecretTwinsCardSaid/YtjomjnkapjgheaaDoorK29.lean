/- Part 29 of the proof that stands in the last text of this folder (lemmas; no statement of its own). -/
import Derived.Test.YtjomjnkapjgheaaDoorK16
import Derived.Test.YtjomjnkapjgheaaDoorK17
import Derived.Test.YtjomjnkapjgheaaDoorK28
section
open Nat renaming reduceBEq → NB, reduceAdd → NA, reduceSub → NS, reduceMul → NM, reduceLT → NL, reduceLeDiff → ND, reduceEqDiff → NE
open Int renaming reduceLT → IL, reduceLE → ID, reduceToNat → IT, reduceEq → IE, reduceBEq → IB, reduceBNe → IN, reduceAdd → IA, reduceSub → IS, reduceNeg → IM
open Bool renaming not_true → BT, not_false → BF
set_option linter.unusedVariables false
set_option maxRecDepth 8000
namespace Go.Proofs.AM
open Go
abbrev dactylref23_Encode_d0 (g : String → Nat) : List AOper := [⟨some 9, .fa 0 (.tmp 1), none, []⟩,⟨some 10, .load 1 false (.tmp 9), none, [0]⟩,⟨some 11, .callv (.const (.fn (g "dactyl/dactylref01.Bytes") [] [])) [(.tmp 10)], none, [1, 0]⟩,⟨some 12, .fa 1 (.tmp 1), none, []⟩,⟨some 13, .load 1 false (.tmp 12), none, [3]⟩,⟨some 14, .lenV (.tmp 13), none, [4, 3]⟩,⟨some 15, .callv (.const (.fn (g "dactyl/dactylref01.Int") [] [])) [(.tmp 14)], none, [5, 4, 3, 2, 1, 0]⟩,⟨some 16, .app 1 1 (.tmp 11) (.tmp 15), none, [6, 5, 4, 3, 2, 1, 0]⟩,⟨some 3, .mov (.tmp 16), none, [7, 6, 5, 4, 3, 2, 1, 0]⟩]
abbrev dactylref23_Encode_k0 : List Nat := [2, 4]
abbrev dactylref23_Encode_d1 (g : String → Nat) : List AOper := [⟨some 24, .mov (.tmp 3), none, []⟩,⟨some 25, .fa 1 (.tmp 1), none, []⟩,⟨some 26, .load 1 false (.tmp 25), none, [1]⟩,⟨some 27, .mov (.tmp 4), none, []⟩,⟨some 28, .iaV (.tmp 26) (.tmp 27) 4, none, [2, 1, 3]⟩,⟨some 29, .fa 0 (.tmp 28), none, [4, 2, 1, 3]⟩,⟨some 30, .load 1 false (.tmp 29), none, [5, 4, 2, 1, 3]⟩,⟨some 31, .callv (.const (.fn (g "dactyl/dactylref01.Bytes") [] [])) [(.tmp 30)], none, [6, 5, 4, 2, 1, 3]⟩,⟨some 32, .app 1 1 (.tmp 24) (.tmp 31), none, [0, 7, 6, 5, 4, 2, 1, 3]⟩,⟨some 33, .fa 1 (.tmp 1), none, []⟩,⟨some 34, .load 1 false (.tmp 33), none, [9]⟩,⟨some 35, .mov (.tmp 4), none, []⟩,⟨some 36, .iaV (.tmp 34) (.tmp 35) 4, none, [10, 9, 11]⟩,⟨some 37, .fa 1 (.tmp 36), none, [12, 10, 9, 11]⟩,⟨some 38, .load 1 false (.tmp 37), none, [13, 12, 10, 9, 11]⟩,⟨some 39, .lenV (.tmp 38), none, [14, 13, 12, 10, 9, 11]⟩,⟨some 40, .callv (.const (.fn (g "dactyl/dactylref01.Int") [] [])) [(.tmp 39)], none, [15, 14, 13, 12, 10, 9, 11, 8, 0, 7, 6, 5, 4, 2, 1, 3]⟩,⟨some 41, .app 1 1 (.tmp 32) (.tmp 40), none, [16, 15, 14, 13, 12, 10, 9, 11, 8, 0, 7, 6, 5, 4, 2, 1, 3]⟩,⟨some 3, .mov (.tmp 41), none, [17, 16, 15, 14, 13, 12, 10, 9, 11, 8, 0, 7, 6, 5, 4, 2, 1, 3]⟩]
abbrev dactylref23_Encode_k1 : List Nat := [7, 8, 10, 14]
abbrev dactylref23_Encode_l1 (g : String → Nat) : ACode := .seq (.seq (.region false [⟨some 42, .mov (.tmp 5), none, []⟩,⟨some 43, .fa 1 (.tmp 1), none, []⟩,⟨some 44, .load 1 false (.tmp 43), none, [1]⟩,⟨some 45, .mov (.tmp 4), none, []⟩,⟨some 46, .iaV (.tmp 44) (.tmp 45) 4, none, [2, 1, 3]⟩,⟨some 47, .fa 1 (.tmp 46), none, [4, 2, 1, 3]⟩,⟨some 48, .load 1 false (.tmp 47), none, [5, 4, 2, 1, 3]⟩,⟨some 49, .lenV (.tmp 48), none, [6, 5, 4, 2, 1, 3]⟩,⟨some 50, .bin .lss .no (.tmp 42) (.tmp 49), none, [0, 7, 6, 5, 4, 2, 1, 3]⟩]) <| .cond (.tmp 50) (.skip) (.exit 2)) <| .seq (.block 3 (.region false [⟨some 53, .mov (.tmp 3), none, []⟩,⟨some 54, .fa 1 (.tmp 1), none, []⟩,⟨some 55, .load 1 false (.tmp 54), none, [1]⟩,⟨some 56, .mov (.tmp 4), none, []⟩,⟨some 57, .iaV (.tmp 55) (.tmp 56) 4, none, [2, 1, 3]⟩,⟨some 58, .fa 1 (.tmp 57), none, [4, 2, 1, 3]⟩,⟨some 59, .load 1 false (.tmp 58), none, [5, 4, 2, 1, 3]⟩,⟨some 60, .mov (.tmp 5), none, []⟩,⟨some 61, .iaV (.tmp 59) (.tmp 60) 13, none, [6, 5, 4, 2, 1, 3, 7]⟩,⟨some 62, .load 13 true (.tmp 61), none, [8, 6, 5, 4, 2, 1, 3, 7]⟩,⟨some 63, .callv (.const (.fn (g "dactyl/dactylref23.EncodeBlock") [] [])) [(.tmp 62)], none, [9, 8, 6, 5, 4, 2, 1, 3, 7]⟩,⟨some 64, .app 1 1 (.tmp 53) (.tmp 63), none, [0, 10, 9, 8, 6, 5, 4, 2, 1, 3, 7]⟩,⟨some 3, .mov (.tmp 64), none, [11, 0, 10, 9, 8, 6, 5, 4, 2, 1, 3, 7]⟩])) <| .region false [⟨some 51, .mov (.tmp 5), none, []⟩,⟨some 52, .bin .add .no (.tmp 51) (.const (.int .i64 1)), none, [0]⟩,⟨some 5, .mov (.tmp 52), none, [1, 0]⟩]
abbrev dactylref23_Encode_w1 : List Nat := [42, 43, 44, 45, 46, 47, 48, 49, 50, 53, 54, 55, 56, 57, 58, 59, 60, 61, 62, 63, 64, 3, 51, 52, 5]
abbrev dactylref23_Encode_l2 (g : String → Nat) : ACode := .seq (.seq (.region false [⟨some 75, .mov (.tmp 6), none, []⟩,⟨some 76, .fa 1 (.tmp 1), none, []⟩,⟨some 77, .load 1 false (.tmp 76), none, [1]⟩,⟨some 78, .mov (.tmp 4), none, []⟩,⟨some 79, .iaV (.tmp 77) (.tmp 78) 4, none, [2, 1, 3]⟩,⟨some 80, .fa 2 (.tmp 79), none, [4, 2, 1, 3]⟩,⟨some 81, .load 1 false (.tmp 80), none, [5, 4, 2, 1, 3]⟩,⟨some 82, .lenV (.tmp 81), none, [6, 5, 4, 2, 1, 3]⟩,⟨some 83, .bin .lss .no (.tmp 75) (.tmp 82), none, [0, 7, 6, 5, 4, 2, 1, 3]⟩]) <| .cond (.tmp 83) (.skip) (.exit 4)) <| .seq (.block 5 (.seq (.region false [⟨some 86, .fa 1 (.tmp 1), none, []⟩,⟨some 87, .load 1 false (.tmp 86), none, [0]⟩,⟨some 88, .mov (.tmp 4), none, []⟩,⟨some 89, .iaV (.tmp 87) (.tmp 88) 4, none, [1, 0, 2]⟩,⟨some 90, .fa 2 (.tmp 89), none, [3, 1, 0, 2]⟩,⟨some 91, .load 1 false (.tmp 90), none, [4, 3, 1, 0, 2]⟩,⟨some 92, .mov (.tmp 6), none, []⟩,⟨some 93, .iaV (.tmp 91) (.tmp 92) 4, none, [5, 4, 3, 1, 0, 2, 6]⟩,⟨some 94, .load 4 true (.tmp 93), none, [7, 5, 4, 3, 1, 0, 2, 6]⟩,⟨some 7, .alloc [(.int .i64 0), (.int .i64 0), (.int .i64 0), (.int .i64 0)], none, []⟩,⟨none, .store 4 (.tmp 7) (.tmp 94), none, [8, 7, 5, 4, 3, 1, 0, 2, 6, 9]⟩]) <| .region false [⟨some 95, .mov (.tmp 3), none, []⟩,⟨some 96, .fa 0 (.tmp 7), none, []⟩,⟨some 97, .load 1 false (.tmp 96), none, [1]⟩,⟨some 98, .fa 1 (.tmp 7), none, []⟩,⟨some 99, .load 1 false (.tmp 98), none, [3]⟩,⟨some 100, .fa 2 (.tmp 7), none, []⟩,⟨some 101, .load 1 false (.tmp 100), none, [5]⟩,⟨some 102, .fa 3 (.tmp 7), none, []⟩,⟨some 103, .load 1 false (.tmp 102), none, [7]⟩,⟨some 104, .bsl 1 [(.int .i64 0)] 4 [(0, (.tmp 97)), (1, (.tmp 99)), (2, (.tmp 101)), (3, (.tmp 103))], none, [2, 1, 4, 3, 6, 5, 8, 7]⟩,⟨some 105, .callv (.const (.fn (g "dactyl/dactylref01.Ints") [] [])) [(.tmp 104)], none, [9, 2, 1, 4, 3, 6, 5, 8, 7]⟩,⟨some 106, .app 1 1 (.tmp 95) (.tmp 105), none, [0, 10, 9, 2, 1, 4, 3, 6, 5, 8, 7]⟩,⟨some 3, .mov (.tmp 106), none, [11, 0, 10, 9, 2, 1, 4, 3, 6, 5, 8, 7]⟩])) <| .region false [⟨some 84, .mov (.tmp 6), none, []⟩,⟨some 85, .bin .add .no (.tmp 84) (.const (.int .i64 1)), none, [0]⟩,⟨some 6, .mov (.tmp 85), none, [1, 0]⟩]
abbrev dactylref23_Encode_w2 : List Nat := [75, 76, 77, 78, 79, 80, 81, 82, 83, 86, 87, 88, 89, 90, 91, 92, 93, 94, 7, 95, 96, 97, 98, 99, 100, 101, 102, 103, 104, 105, 106, 3, 84, 85, 6]
abbrev dactylref23_Encode_l3 (g : String → Nat) : ACode := .seq (.seq (.region false [⟨some 117, .mov (.tmp 8), none, []⟩,⟨some 118, .fa 1 (.tmp 1), none, []⟩,⟨some 119, .load 1 false (.tmp 118), none, [1]⟩,⟨some 120, .mov (.tmp 4), none, []⟩,⟨some 121, .iaV (.tmp 119) (.tmp 120) 4, none, [2, 1, 3]⟩,⟨some 122, .fa 3 (.tmp 121), none, [4, 2, 1, 3]⟩,⟨some 123, .load 1 false (.tmp 122), none, [5, 4, 2, 1, 3]⟩,⟨some 124, .lenV (.tmp 123), none, [6, 5, 4, 2, 1, 3]⟩,⟨some 125, .bin .lss .no (.tmp 117) (.tmp 124), none, [0, 7, 6, 5, 4, 2, 1, 3]⟩]) <| .cond (.tmp 125) (.skip) (.exit 6)) <| .seq (.block 7 (.region false [⟨some 128, .mov (.tmp 3), none, []⟩,⟨some 129, .fa 1 (.tmp 1), none, []⟩,⟨some 130, .load 1 false (.tmp 129), none, [1]⟩,⟨some 131, .mov (.tmp 4), none, []⟩,⟨some 132, .iaV (.tmp 130) (.tmp 131) 4, none, [2, 1, 3]⟩,⟨some 133, .fa 3 (.tmp 132), none, [4, 2, 1, 3]⟩,⟨some 134, .load 1 false (.tmp 133), none, [5, 4, 2, 1, 3]⟩,⟨some 135, .mov (.tmp 8), none, []⟩,⟨some 136, .iaV (.tmp 134) (.tmp 135) 7, none, [6, 5, 4, 2, 1, 3, 7]⟩,⟨some 137, .load 7 true (.tmp 136), none, [8, 6, 5, 4, 2, 1, 3, 7]⟩,⟨some 138, .callv (.const (.fn (g "dactyl/dactylref23.encodeQuestion") [] [])) [(.tmp 137)], none, [9, 8, 6, 5, 4, 2, 1, 3, 7]⟩,⟨some 139, .app 1 1 (.tmp 128) (.tmp 138), none, [0, 10, 9, 8, 6, 5, 4, 2, 1, 3, 7]⟩,⟨some 3, .mov (.tmp 139), none, [11, 0, 10, 9, 8, 6, 5, 4, 2, 1, 3, 7]⟩])) <| .region false [⟨some 126, .mov (.tmp 8), none, []⟩,⟨some 127, .bin .add .no (.tmp 126) (.const (.int .i64 1)), none, [0]⟩,⟨some 8, .mov (.tmp 127), none, [1, 0]⟩]
abbrev dactylref23_Encode_w3 : List Nat := [117, 118, 119, 120, 121, 122, 123, 124, 125, 128, 129, 130, 131, 132, 133, 134, 135, 136, 137, 138, 139, 3, 126, 127, 8]
abbrev dactylref23_Encode_l0 (g : String → Nat) : ACode := .seq (.seq (.region false [⟨some 17, .mov (.tmp 4), none, []⟩,⟨some 18, .fa 1 (.tmp 1), none, []⟩,⟨some 19, .load 1 false (.tmp 18), none, [1]⟩,⟨some 20, .lenV (.tmp 19), none, [2, 1]⟩,⟨some 21, .bin .lss .no (.tmp 17) (.tmp 20), none, [0, 3, 2, 1]⟩]) <| .cond (.tmp 21) (.skip) (.exit 0)) <| .seq (.block 1 (.seq (.region true (dactylref23_Encode_d1 g)) <| .seq (.seq (.region false [⟨some 5, .mov (.const (.int .i64 0)), none, []⟩]) <| .block 2 (.loop (dactylref23_Encode_l1 g))) <| .seq (.region false [⟨some 65, .mov (.tmp 3), none, []⟩,⟨some 66, .fa 1 (.tmp 1), none, []⟩,⟨some 67, .load 1 false (.tmp 66), none, [1]⟩,⟨some 68, .mov (.tmp 4), none, []⟩,⟨some 69, .iaV (.tmp 67) (.tmp 68) 4, none, [2, 1, 3]⟩,⟨some 70, .fa 2 (.tmp 69), none, [4, 2, 1, 3]⟩,⟨some 71, .load 1 false (.tmp 70), none, [5, 4, 2, 1, 3]⟩,⟨some 72, .lenV (.tmp 71), none, [6, 5, 4, 2, 1, 3]⟩,⟨some 73, .callv (.const (.fn (g "dactyl/dactylref01.Int") [] [])) [(.tmp 72)], none, [7, 6, 5, 4, 2, 1, 3]⟩,⟨some 74, .app 1 1 (.tmp 65) (.tmp 73), none, [0, 8, 7, 6, 5, 4, 2, 1, 3]⟩,⟨some 3, .mov (.tmp 74), none, [9, 0, 8, 7, 6, 5, 4, 2, 1, 3]⟩]) <| .seq (.seq (.region false [⟨some 6, .mov (.const (.int .i64 0)), none, []⟩]) <| .block 4 (.loop (dactylref23_Encode_l2 g))) <| .seq (.region false [⟨some 107, .mov (.tmp 3), none, []⟩,⟨some 108, .fa 1 (.tmp 1), none, []⟩,⟨some 109, .load 1 false (.tmp 108), none, [1]⟩,⟨some 110, .mov (.tmp 4), none, []⟩,⟨some 111, .iaV (.tmp 109) (.tmp 110) 4, none, [2, 1, 3]⟩,⟨some 112, .fa 3 (.tmp 111), none, [4, 2, 1, 3]⟩,⟨some 113, .load 1 false (.tmp 112), none, [5, 4, 2, 1, 3]⟩,⟨some 114, .lenV (.tmp 113), none, [6, 5, 4, 2, 1, 3]⟩,⟨some 115, .callv (.const (.fn (g "dactyl/dactylref01.Int") [] [])) [(.tmp 114)], none, [7, 6, 5, 4, 2, 1, 3]⟩,⟨some 116, .app 1 1 (.tmp 107) (.tmp 115), none, [0, 8, 7, 6, 5, 4, 2, 1, 3]⟩,⟨some 3, .mov (.tmp 116), none, [9, 0, 8, 7, 6, 5, 4, 2, 1, 3]⟩]) <| .seq (.region false [⟨some 8, .mov (.const (.int .i64 0)), none, []⟩]) <| .block 6 (.loop (dactylref23_Encode_l3 g)))) <| .region false [⟨some 22, .mov (.tmp 4), none, []⟩,⟨some 23, .bin .add .no (.tmp 22) (.const (.int .i64 1)), none, [0]⟩,⟨some 4, .mov (.tmp 23), none, [1, 0]⟩]
abbrev dactylref23_Encode_w0 : List Nat := [17, 18, 19, 20, 21, 24, 25, 26, 27, 28, 29, 30, 31, 32, 33, 34, 35, 36, 37, 38, 39, 40, 41, 3, 5, 42, 43, 44, 45, 46, 47, 48, 49, 50, 53, 54, 55, 56, 57, 58, 59, 60, 61, 62, 63, 64, 3, 51, 52, 5, 65, 66, 67, 68, 69, 70, 71, 72, 73, 74, 3, 6, 75, 76, 77, 78, 79, 80, 81, 82, 83, 86, 87, 88, 89, 90, 91, 92, 93, 94, 7, 95, 96, 97, 98, 99, 100, 101, 102, 103, 104, 105, 106, 3, 84, 85, 6, 107, 108, 109, 110, 111, 112, 113, 114, 115, 116, 3, 8, 117, 118, 119, 120, 121, 122, 123, 124, 125, 128, 129, 130, 131, 132, 133, 134, 135, 136, 137, 138, 139, 3, 126, 127, 8, 22, 23, 4]
def dactylref23_Encode (g : String → Nat) : AFn := ⟨141, [1, 11, 15, 16, 31, 32, 40, 41, 63, 64, 73, 74, 7, 105, 106, 115, 116, 138, 139], [.tmp 2],
  .seq (.region false [⟨some 1, .box 2 (.tmp 0), none, []⟩,
    ⟨some 2, .mov (.const (.sl true [])), none, []⟩]) <|
  .seq (.region true (dactylref23_Encode_d0 g)) <|
  .seq (.seq (.region false [⟨some 4, .mov (.const (.int .i64 0)), none, []⟩]) <|
  .block 0 (.loop (dactylref23_Encode_l0 g))) <|
  .seq (.region false [⟨some 140, .mov (.tmp 3), none, []⟩,
    ⟨some 2, .mov (.tmp 140), none, [0]⟩]) <|
  .ret⟩
def factBytes (f : Fact) : List UInt8 := intsBytes [f.kind, f.block, f.a, f.b]
def itemBytes (x : Item) : List UInt8 := strBytes x.name ++ intBytes x.blocks.length ++ x.blocks.flatMap blockBytes ++ intBytes x.facts.length ++ x.facts.flatMap factBytes ++ intBytes x.ask.length ++ x.ask.flatMap questionBytes
def examBytes (x : Exam) : List UInt8 := strBytes x.title ++ intBytes x.items.length ++ x.items.flatMap itemBytes
theorem blockBytes_len {b : Block} (hq : b.Ok) : (blockBytes b).length ≤ 450000 := by
  have l1 := intBytes_len hq.kind
  have l2 := runsBytes_len hq.lenR hq.runs
  have l3 := exprBytes_len hq.expr
  have l3' := hq.size
  have l4 := intBytes_len hq.sumOp
  have l5 := intsBytes_len (by have := hq.lenA; omega) hq.sumA
  have l5' := hq.lenA
  have l6' := hq.lenG
  have l6 := intBytes_len (ok_len (n := b.grid.length) (by omega))
  have l7 := gridBytes_len hq.lenG hq.grid
  have l8 := figBytes_len hq.w hq.h hq.lenS hq.shapes
  have l9 := melBytes_len hq.lenH hq.hands
  have l10 := strsBytes_len hq.lenL hq.lines
  unfold blockBytes; simp only [List.length_append]; omega
theorem questionBytes_len {q : Question} (hq : q.Ok) : (questionBytes q).length ≤ 50000 := by
  have l1 := intBytes_len hq.kind
  have l2 := runsBytes_len hq.lenS hq.stem
  have l3 := strsBytes_len hq.lenO hq.options
  have l4 := intsBytes_len (by have := hq.lenN; omega) hq.needs
  have l4' := hq.lenN
  have hkey := hq.key
  have l5 := strBytes_len (s := q.key) (by omega)
  have l6 := intBytes_len hq.points
  have l7 := strsBytes_len hq.lenR hq.reasons
  unfold questionBytes; simp only [List.length_append]; omega
theorem factInts_ok {f : Fact} (h : f.Ok) : ∀ a ∈ [f.kind, f.block, f.a, f.b], IntOk a := by
  intro a ha
  simp only [List.mem_cons, List.not_mem_nil, or_false] at ha
  rcases ha with rfl | rfl | rfl | rfl
  · exact h.kind
  · exact h.block
  · exact h.a
  · exact h.b
theorem factBytes_len {f : Fact} (h : f.Ok) : (factBytes f).length ≤ 45 := by
  have := intsBytes_len (l := [f.kind, f.block, f.a, f.b]) (by simp) (factInts_ok h)
  simp only [List.length_cons, List.length_nil] at this
  unfold factBytes; omega
theorem itemBytes_len {x : Item} (h : x.Ok) : (itemBytes x).length ≤ 9000000 := by
  have hn := h.name
  have l1 := strBytes_len (s := x.name) (by omega)
  have hb := h.lenB
  have hf := h.lenF
  have ha := h.lenA
  have l2 := intBytes_len (ok_len (n := x.blocks.length) (by omega))
  have l3 : (x.blocks.flatMap blockBytes).length ≤ x.blocks.length * 450000 := flat_le fun a ha => blockBytes_len (h.blocks a ha)
  have l4 := intBytes_len (ok_len (n := x.facts.length) (by omega))
  have l5 : (x.facts.flatMap factBytes).length ≤ x.facts.length * 45 := flat_le fun a ha => factBytes_len (h.facts a ha)
  have l6 := intBytes_len (ok_len (n := x.ask.length) (by omega))
  have l7 : (x.ask.flatMap questionBytes).length ≤ x.ask.length * 50000 := flat_le fun a ha => questionBytes_len (h.ask a ha)
  unfold itemBytes; simp only [List.length_append]; omega
structure EncAll (A : AProg) (g : String → Nat) : Prop extends Enc23 A g where
  block : ∀ b : Block, b.Ok → SpecBytes A (g "dactyl/dactylref23.EncodeBlock") [.agg (encBlock b)] (blockBytes b)
  question : ∀ q : Question, q.Ok → SpecBytes A (g "dactyl/dactylref23.encodeQuestion") [.agg (encQ q)] (questionBytes q)
abbrev encSites : List Nat := [1, 11, 15, 16, 31, 32, 40, 41, 63, 64, 73, 74, 7, 105, 106, 115, 116, 138, 139]
theorem question_notEmpty (q : Question) : (questionBytes q).isEmpty = false := rfl
theorem fact_notEmpty (f : Fact) : (factBytes f).isEmpty = false := rfl
theorem len_q7 (q : Question) : (encQ q).length = 7 := rfl
theorem enc_blocks {A : AProg} {g : String → Nat} (he : EncAll A g) {H0 : List AObj} {Q : AExit → SEnv → List AObj → List Nat → Prop} {tg} {t : AV} {L : List Item} {i : Nat} (hi : i < L.length) (hh : L[i].Ok)
    {vx : Nat} {pre : List UInt8} (hpl : pre.length ≤ 500000000) {R : List AObj} (hR : R.length = 17) {ρ : SEnv} (e1 : ρ 1 = .ptr H0.length vx 0) (e3 : ρ 3 = .sr (H0.length + 1) 1 pre.length) (e4 : ρ 4 = vi i) (e5 : ρ 5 = vi 0)
    (hQ : ∀ ρ' bs R, (∀ t, dactylref23_Encode_w1.contains t = false → ρ' t = ρ t) → R.length = 17 → bs = pre ++ L[i].blocks.flatMap blockBytes → ρ' 3 = .sr (H0.length + 1) 1 bs.length →
      Q (.exit 2) ρ' (H0 ++ (.box vx [t, .sl false (L.map encItem)] :: .vec 1 1 (bs.map encByte) :: R)) []) :
    wl A 141 ⟨H0.length, encSites⟩ (dactylref23_Encode_l1 g) ρ (H0 ++ (.box vx [t, .sl false (L.map encItem)] :: .vec 1 1 (pre.map encByte) :: R)) [] Q tg := by
  have hhl := hh.lenB
  have htot : (L[i].blocks.flatMap blockBytes).length ≤ L[i].blocks.length * 450000 := flat_le (fun a ha => blockBytes_len (hh.blocks a ha))
  refine wl_for2 (W := dactylref23_Encode_w1) (fun j ρ1 H1 wr => wr = [] ∧ ρ1 5 = vi j ∧ ∃ bs R, R.length = 17 ∧ bs = pre ++ (L[i].blocks.take j).flatMap blockBytes ∧ ρ1 3 = .sr (H0.length + 1) 1 bs.length ∧ H1 = H0 ++ (.box vx [t, .sl false (L.map encItem)] :: .vec 1 1 (bs.map encByte) :: R)) L[i].blocks.length
    (fun ρ1 H1 wr => wr = [] ∧ ∃ bs R, R.length = 17 ∧ bs = pre ++ L[i].blocks.flatMap blockBytes ∧ ρ1 3 = .sr (H0.length + 1) 1 bs.length ∧ H1 = H0 ++ (.box vx [t, .sl false (L.map encItem)] :: .vec 1 1 (bs.map encByte) :: R))
    (by kernel_rfl) (by rfl) ⟨rfl, e5, pre, R, hR, by simp, e3, rfl⟩ ?_ (by
      rintro ρ' H' wr' ⟨rfl, bs, R, hR, h1, h2, rfl⟩ hf
      exact hQ ρ' bs R hf hR h1 h2)
  rintro j ρ1 H1 wr1 hjl ⟨rfl, e5, bs, R, hR, hbs, e3, rfl⟩ hf
  have f1 : ρ1 1 = .ptr H0.length vx 0 := (hf 1 (by decide)).trans e1
  have f4 : ρ1 4 = vi i := (hf 4 (by decide)).trans e4
  simp only [go_sem, ↓reduceIte, NB, NA, ND, f1, f4, e5, getElem?_map_of hi, encItem]
  refine branch_intro (fun hb => ?_) (fun hb => ?_)
  · have hlt : j < L[i].blocks.length := by simpa using hb
    have hpi := hh.blocks _ (List.getElem_mem hlt)
    have hc : ∀ H, callI A (g "dactyl/dactylref23.EncodeBlock") [.agg (encBlock L[i].blocks[j])] H = some (.own 1 ((blockBytes L[i].blocks[j]).map encByte), H, []) := he.block _ hpi
    have hsu : pre ++ (L[i].blocks.take (j + 1)).flatMap blockBytes = bs ++ blockBytes L[i].blocks[j] := by rw [flat_take_succ hlt, hbs, List.append_assoc]
    have hle := flat_take_le (f := blockBytes) (l := L[i].blocks) (i := j + 1)
    have hlen := congrArg List.length hsu
    simp only [List.length_append] at hlen
    have hr : roomy (bs.length + (blockBytes L[i].blocks[j]).length) 1 = true := room (by omega)
    have htk : List.take 13 (encBlock L[i].blocks[j]) = encBlock L[i].blocks[j] := List.take_of_length_le (by rw [len_block13]; exact Nat.le_refl _)
    simp only [go_sem, ↓reduceIte, NB, NA, NL, ND, NE, BT, f1, f4, e3, e5, hlt, getElem?_map_of hi, getElem?_map_of hlt, encItem, hR, len_block13, htk, lendL_of_data (data_block _), map_strip1_of_data (data_block _), hc, headOk_bytes, isEmpty_bytes, block_notEmpty, hr, bytes_append]
    rw [wrap_succ (by omega)]
    exact ⟨rfl, _, _, by rw [List.length_set]; exact hR, hsu.symm, by simp only [List.length_append], rfl⟩
  · have hlt : j = L[i].blocks.length := by
      have : ¬ j < L[i].blocks.length := by simpa using hb
      omega
    subst hlt
    rw [List.take_length] at hbs
    simp only [go_sem, NB]
    exact ⟨bs, R, hR, hbs, e3, rfl⟩
theorem enc_facts {A : AProg} {g : String → Nat} (he : EncAll A g) {H0 : List AObj} {Q : AExit → SEnv → List AObj → List Nat → Prop} {tg} {t : AV} {L : List Item} {i : Nat} (hi : i < L.length) (hh : L[i].Ok)
    {vx : Nat} {pre : List UInt8} (hpl : pre.length ≤ 500000000) {R : List AObj} (hR : R.length = 17) {ρ : SEnv} (e1 : ρ 1 = .ptr H0.length vx 0) (e3 : ρ 3 = .sr (H0.length + 1) 1 pre.length) (e4 : ρ 4 = vi i) (e5 : ρ 6 = vi 0)
    (hQ : ∀ ρ' bs R, (∀ t, dactylref23_Encode_w2.contains t = false → ρ' t = ρ t) → R.length = 17 → bs = pre ++ L[i].facts.flatMap factBytes → ρ' 3 = .sr (H0.length + 1) 1 bs.length →
      Q (.exit 4) ρ' (H0 ++ (.box vx [t, .sl false (L.map encItem)] :: .vec 1 1 (bs.map encByte) :: R)) []) :
    wl A 141 ⟨H0.length, encSites⟩ (dactylref23_Encode_l2 g) ρ (H0 ++ (.box vx [t, .sl false (L.map encItem)] :: .vec 1 1 (pre.map encByte) :: R)) [] Q tg := by
  have hhl := hh.lenF
  have htot : (L[i].facts.flatMap factBytes).length ≤ L[i].facts.length * 45 := flat_le (fun a ha => factBytes_len (hh.facts a ha))
  refine wl_for2 (W := dactylref23_Encode_w2) (fun j ρ1 H1 wr => wr = [] ∧ ρ1 6 = vi j ∧ ∃ bs R, R.length = 17 ∧ bs = pre ++ (L[i].facts.take j).flatMap factBytes ∧ ρ1 3 = .sr (H0.length + 1) 1 bs.length ∧ H1 = H0 ++ (.box vx [t, .sl false (L.map encItem)] :: .vec 1 1 (bs.map encByte) :: R)) L[i].facts.length
    (fun ρ1 H1 wr => wr = [] ∧ ∃ bs R, R.length = 17 ∧ bs = pre ++ L[i].facts.flatMap factBytes ∧ ρ1 3 = .sr (H0.length + 1) 1 bs.length ∧ H1 = H0 ++ (.box vx [t, .sl false (L.map encItem)] :: .vec 1 1 (bs.map encByte) :: R))
    (by kernel_rfl) (by rfl) ⟨rfl, e5, pre, R, hR, by simp, e3, rfl⟩ ?_ (by
      rintro ρ' H' wr' ⟨rfl, bs, R, hR, h1, h2, rfl⟩ hf
      exact hQ ρ' bs R hf hR h1 h2)
  rintro j ρ1 H1 wr1 hjl ⟨rfl, e5, bs, R, hR, hbs, e3, rfl⟩ hf
  have f1 : ρ1 1 = .ptr H0.length vx 0 := (hf 1 (by decide)).trans e1
  have f4 : ρ1 4 = vi i := (hf 4 (by decide)).trans e4
  simp only [go_sem, ↓reduceIte, NB, NA, ND, f1, f4, e5, getElem?_map_of hi, encItem]
  refine branch_intro (fun hb => ?_) (fun hb => ?_)
  · have hlt : j < L[i].facts.length := by simpa using hb
    have hpi := hh.facts _ (List.getElem_mem hlt)
    have hc : ∀ H, callI A (g "dactyl/dactylref01.Ints") [.sl false [[vi L[i].facts[j].kind], [vi L[i].facts[j].block], [vi L[i].facts[j].a], [vi L[i].facts[j].b]]] H = some (.own 1 ((factBytes L[i].facts[j]).map encByte), H, []) := he.ints _ (by simp) (factInts_ok hpi)
    have hsu : pre ++ (L[i].facts.take (j + 1)).flatMap factBytes = bs ++ factBytes L[i].facts[j] := by rw [flat_take_succ hlt, hbs, List.append_assoc]
    have hle := flat_take_le (f := factBytes) (l := L[i].facts) (i := j + 1)
    have hlen := congrArg List.length hsu
    simp only [List.length_append] at hlen
    have hr : roomy (bs.length + (factBytes L[i].facts[j]).length) 1 = true := room (by omega)
    simp only [go_sem, ↓reduceIte, NB, NA, NL, ND, NE, BT, f1, f4, e3, e5, hlt, getElem?_map_of hi, getElem?_map_of hlt, encItem, hR, encFact, hc, headOk_bytes, isEmpty_bytes, fact_notEmpty, hr, bytes_append]
    rw [wrap_succ (by omega)]
    exact ⟨rfl, _, _, by simp only [List.length_set]; exact hR, hsu.symm, by simp only [List.length_append], rfl⟩
  · have hlt : j = L[i].facts.length := by
      have : ¬ j < L[i].facts.length := by simpa using hb
      omega
    subst hlt
    rw [List.take_length] at hbs
    simp only [go_sem, NB]
    exact ⟨bs, R, hR, hbs, e3, rfl⟩
theorem enc_asks {A : AProg} {g : String → Nat} (he : EncAll A g) {H0 : List AObj} {Q : AExit → SEnv → List AObj → List Nat → Prop} {tg} {t : AV} {L : List Item} {i : Nat} (hi : i < L.length) (hh : L[i].Ok)
    {vx : Nat} {pre : List UInt8} (hpl : pre.length ≤ 500000000) {R : List AObj} (hR : R.length = 17) {ρ : SEnv} (e1 : ρ 1 = .ptr H0.length vx 0) (e3 : ρ 3 = .sr (H0.length + 1) 1 pre.length) (e4 : ρ 4 = vi i) (e5 : ρ 8 = vi 0)
    (hQ : ∀ ρ' bs R, (∀ t, dactylref23_Encode_w3.contains t = false → ρ' t = ρ t) → R.length = 17 → bs = pre ++ L[i].ask.flatMap questionBytes → ρ' 3 = .sr (H0.length + 1) 1 bs.length →
      Q (.exit 6) ρ' (H0 ++ (.box vx [t, .sl false (L.map encItem)] :: .vec 1 1 (bs.map encByte) :: R)) []) :
    wl A 141 ⟨H0.length, encSites⟩ (dactylref23_Encode_l3 g) ρ (H0 ++ (.box vx [t, .sl false (L.map encItem)] :: .vec 1 1 (pre.map encByte) :: R)) [] Q tg := by
  have hhl := hh.lenA
  have htot : (L[i].ask.flatMap questionBytes).length ≤ L[i].ask.length * 50000 := flat_le (fun a ha => questionBytes_len (hh.ask a ha))
  refine wl_for2 (W := dactylref23_Encode_w3) (fun j ρ1 H1 wr => wr = [] ∧ ρ1 8 = vi j ∧ ∃ bs R, R.length = 17 ∧ bs = pre ++ (L[i].ask.take j).flatMap questionBytes ∧ ρ1 3 = .sr (H0.length + 1) 1 bs.length ∧ H1 = H0 ++ (.box vx [t, .sl false (L.map encItem)] :: .vec 1 1 (bs.map encByte) :: R)) L[i].ask.length
    (fun ρ1 H1 wr => wr = [] ∧ ∃ bs R, R.length = 17 ∧ bs = pre ++ L[i].ask.flatMap questionBytes ∧ ρ1 3 = .sr (H0.length + 1) 1 bs.length ∧ H1 = H0 ++ (.box vx [t, .sl false (L.map encItem)] :: .vec 1 1 (bs.map encByte) :: R))
    (by kernel_rfl) (by rfl) ⟨rfl, e5, pre, R, hR, by simp, e3, rfl⟩ ?_ (by
      rintro ρ' H' wr' ⟨rfl, bs, R, hR, h1, h2, rfl⟩ hf
      exact hQ ρ' bs R hf hR h1 h2)
  rintro j ρ1 H1 wr1 hjl ⟨rfl, e5, bs, R, hR, hbs, e3, rfl⟩ hf
  have f1 : ρ1 1 = .ptr H0.length vx 0 := (hf 1 (by decide)).trans e1
  have f4 : ρ1 4 = vi i := (hf 4 (by decide)).trans e4
  simp only [go_sem, ↓reduceIte, NB, NA, f1, f4, e5, getElem?_map_of hi, encItem]
  refine branch_intro (fun hb => ?_) (fun hb => ?_)
  · have hlt : j < L[i].ask.length := by simpa using hb
    have hpi := hh.ask _ (List.getElem_mem hlt)
    have hc : ∀ H, callI A (g "dactyl/dactylref23.encodeQuestion") [.agg (encQ L[i].ask[j])] H = some (.own 1 ((questionBytes L[i].ask[j]).map encByte), H, []) := he.question _ hpi
    have hsu : pre ++ (L[i].ask.take (j + 1)).flatMap questionBytes = bs ++ questionBytes L[i].ask[j] := by rw [flat_take_succ hlt, hbs, List.append_assoc]
    have hle := flat_take_le (f := questionBytes) (l := L[i].ask) (i := j + 1)
    have hlen := congrArg List.length hsu
    simp only [List.length_append] at hlen
    have hr : roomy (bs.length + (questionBytes L[i].ask[j]).length) 1 = true := room (by omega)
    have htk : List.take 7 (encQ L[i].ask[j]) = encQ L[i].ask[j] := rfl
    simp only [go_sem, ↓reduceIte, NB, NA, NL, NE, BT, f1, f4, e3, e5, hlt, getElem?_map_of hi, getElem?_map_of hlt, encItem, hR, len_q7, htk, lendL_of_data (data_q _), map_strip1_of_data (data_q _), hc, headOk_bytes, isEmpty_bytes, question_notEmpty, hr, bytes_append]
    rw [wrap_succ (by omega)]
    exact ⟨rfl, _, _, by rw [List.length_set]; exact hR, hsu.symm, by simp only [List.length_append], rfl⟩
  · have hlt : j = L[i].ask.length := by
      have : ¬ j < L[i].ask.length := by simpa using hb
      omega
    subst hlt
    rw [List.take_length] at hbs
    simp only [go_sem, NB]
    exact ⟨bs, R, hR, hbs, e3, rfl⟩
set_option maxHeartbeats 1600000 in
theorem enc_items {A : AProg} {g : String → Nat} (he : EncAll A g) {H0 : List AObj} {Q : AExit → SEnv → List AObj → List Nat → Prop} {tg} {t : AV} {L : List Item} (hl : L.length ≤ 16) (hh : ∀ x ∈ L, x.Ok)
    {vx : Nat} {pre : List UInt8} (hpl : pre.length ≤ 5000) {R : List AObj} (hR : R.length = 17) {ρ : SEnv} (e1 : ρ 1 = .ptr H0.length vx 0) (e3 : ρ 3 = .sr (H0.length + 1) 1 pre.length) (e4 : ρ 4 = vi 0)
    (hQ : ∀ ρ' bs R, (∀ t, dactylref23_Encode_w0.contains t = false → ρ' t = ρ t) → R.length = 17 → bs = pre ++ L.flatMap itemBytes → ρ' 3 = .sr (H0.length + 1) 1 bs.length →
      Q (.exit 0) ρ' (H0 ++ (.box vx [t, .sl false (L.map encItem)] :: .vec 1 1 (bs.map encByte) :: R)) []) :
    wl A 141 ⟨H0.length, encSites⟩ (dactylref23_Encode_l0 g) ρ (H0 ++ (.box vx [t, .sl false (L.map encItem)] :: .vec 1 1 (pre.map encByte) :: R)) [] Q tg := by
  have htot : (L.flatMap itemBytes).length ≤ L.length * 9000000 := flat_le (fun a ha => itemBytes_len (hh a ha))
  refine wl_for2 (W := dactylref23_Encode_w0) (fun i ρ1 H1 wr => wr = [] ∧ ρ1 4 = vi i ∧ ∃ bs R, R.length = 17 ∧ bs = pre ++ (L.take i).flatMap itemBytes ∧ ρ1 3 = .sr (H0.length + 1) 1 bs.length ∧ H1 = H0 ++ (.box vx [t, .sl false (L.map encItem)] :: .vec 1 1 (bs.map encByte) :: R)) L.length
    (fun ρ1 H1 wr => wr = [] ∧ ∃ bs R, R.length = 17 ∧ bs = pre ++ L.flatMap itemBytes ∧ ρ1 3 = .sr (H0.length + 1) 1 bs.length ∧ H1 = H0 ++ (.box vx [t, .sl false (L.map encItem)] :: .vec 1 1 (bs.map encByte) :: R))
    (by kernel_rfl) (by rfl) ⟨rfl, e4, pre, R, hR, by simp, e3, rfl⟩ ?_ (by
      rintro ρ' H' wr' ⟨rfl, bs, R, hR, h1, h2, rfl⟩ hf
      exact hQ ρ' bs R hf hR h1 h2)
  rintro i ρ1 H1 wr1 hil ⟨rfl, e4, bs, R, hR, hbs, e3, rfl⟩ hf
  have f1 : ρ1 1 = .ptr H0.length vx 0 := (hf 1 (by decide)).trans e1
  simp only [go_sem, ↓reduceIte, NB, NA, f1, e4]
  refine branch_intro (fun hb => ?_) (fun hb => ?_)
  · have hlt : i < L.length := by simpa using hb
    have hpi := hh _ (List.getElem_mem hlt)
    have hil2 := itemBytes_len hpi
    have hle := flat_take_le (f := itemBytes) (l := L) (i := i)
    have hle1 := flat_take_le (f := itemBytes) (l := L) (i := i + 1)
    rw [flat_take_succ hlt, List.length_append] at hle1
    have hblen := congrArg List.length hbs
    simp only [List.length_append] at hblen
    have hib : (itemBytes L[i]).length = (strBytes L[i].name).length + (intBytes L[i].blocks.length).length + (L[i].blocks.flatMap blockBytes).length + (intBytes L[i].facts.length).length + (L[i].facts.flatMap factBytes).length + (intBytes L[i].ask.length).length + (L[i].ask.flatMap questionBytes).length := by
      unfold itemBytes; simp only [List.length_append]
    have hnm := hpi.name
    have c1 : ∀ H, callI A (g "dactyl/dactylref01.Bytes") [.str L[i].name] H = some (.own 1 ((strBytes L[i].name).map encByte), H, []) := he.bytes _ (by omega)
    have c2 : ∀ H, callI A (g "dactyl/dactylref01.Int") [vi L[i].blocks.length] H = some (.own 1 ((intBytes L[i].blocks.length).map encByte), H, []) := he.int _ (ok_len (by have := hpi.lenB; omega))
    have c3 : ∀ H, callI A (g "dactyl/dactylref01.Int") [vi L[i].facts.length] H = some (.own 1 ((intBytes L[i].facts.length).map encByte), H, []) := he.int _ (ok_len (by have := hpi.lenF; omega))
    have c4 : ∀ H, callI A (g "dactyl/dactylref01.Int") [vi L[i].ask.length] H = some (.own 1 ((intBytes L[i].ask.length).map encByte), H, []) := he.int _ (ok_len (by have := hpi.lenA; omega))
    have r1 : roomy (bs.length + (strBytes L[i].name).length) 1 = true := room (by omega)
    have r2 : roomy (bs.length + (strBytes L[i].name).length + (intBytes L[i].blocks.length).length) 1 = true := room (by omega)
    simp only [go_sem, hlt]
    refine wc_draw' (keep := dactylref23_Encode_k1) (by rfl) (by rfl) ?_
    simp only [go_sem, ↓reduceIte, NB, NA, NL, ND, NE, BT, BF, dactylref23_Encode_k1, f1, e3, e4, getElem?_map_of hlt, encItem, hR, c1, c2, headOk_bytes, isEmpty_bytes, str_notEmpty, int_notEmpty, r1, r2, bytes_append, logOk, apartL, orderOk_intro]
    refine enc_blocks he hlt hpi (pre := bs ++ strBytes L[i].name ++ intBytes L[i].blocks.length) (by simp only [List.length_append]; omega) (by simp only [List.length_set]; exact hR) (by simp only [go_sem, NB, f1]) (by simp only [go_sem, NB]) (by simp only [go_sem, NB, e4]) (by simp only [go_sem]) ?_
    intro ρ2 bs2 R2 hf2 hR2 hbs2 g3
    have g1 : ρ2 1 = .ptr H0.length vx 0 := by rw [hf2 1 (by decide)]; simp only [go_sem, NB, f1]
    have g4 : ρ2 4 = vi i := by rw [hf2 4 (by decide)]; simp only [go_sem, NB, e4]
    have hb2 := congrArg List.length hbs2
    simp only [List.length_append] at hb2
    have r3 : roomy (bs2.length + (intBytes L[i].facts.length).length) 1 = true := room (by omega)
    simp only [go_sem, ↓reduceIte, NB, NA, NL, ND, NE, BT, g1, g3, g4, getElem?_map_of hlt, encItem, hR2, c3, headOk_bytes, isEmpty_bytes, int_notEmpty, r3, bytes_append]
    refine enc_facts he hlt hpi (pre := bs2 ++ intBytes L[i].facts.length) (by simp only [List.length_append]; omega) (by simp only [List.length_set]; exact hR2) (by simp only [go_sem, NB, g1]) (by simp only [go_sem, NB]) (by simp only [go_sem, NB, g4]) (by simp only [go_sem]) ?_
    intro ρ3 bs3 R3 hf3 hR3 hbs3 k3
    have k1 : ρ3 1 = .ptr H0.length vx 0 := by rw [hf3 1 (by decide)]; simp only [go_sem, NB, g1]
    have k4 : ρ3 4 = vi i := by rw [hf3 4 (by decide)]; simp only [go_sem, NB, g4]
    have hb3 := congrArg List.length hbs3
    simp only [List.length_append] at hb3
    have r4 : roomy (bs3.length + (intBytes L[i].ask.length).length) 1 = true := room (by omega)
    simp only [go_sem, ↓reduceIte, NB, NA, NL, NE, BT, k1, k3, k4, getElem?_map_of hlt, encItem, hR3, c4, headOk_bytes, isEmpty_bytes, int_notEmpty, r4, bytes_append]
    refine enc_asks he hlt hpi (pre := bs3 ++ intBytes L[i].ask.length) (by simp only [List.length_append]; omega) (by simp only [List.length_set]; exact hR3) (by simp only [go_sem, NB, k1]) (by simp only [go_sem, NB]) (by simp only [go_sem, NB, k4]) (by simp only [go_sem]) ?_
    intro ρ4 bs4 R4 hf4 hR4 hbs4 m3
    have m4 : ρ4 4 = vi i := by rw [hf4 4 (by decide)]; simp only [go_sem, NB, k4]
    simp only [go_sem, NB, m3, m4]
    rw [wrap_succ (by omega)]
    refine ⟨hlt, rfl, bs4, R4, hR4, ?_, rfl, rfl⟩
    rw [flat_take_succ hlt, hbs4, hbs3, hbs2, hbs, itemBytes]
    simp only [List.append_assoc]
  · have hlt : i = L.length := by
      have : ¬ i < L.length := by simpa using hb
      omega
    subst hlt
    rw [List.take_length] at hbs
    simp only [go_sem, NB]
    exact ⟨bs, R, hR, hbs, e3, rfl⟩
theorem exam_enc {A : AProg} {g : String → Nat} (h : Has A g "dactyl/dactylref23.Encode" (dactylref23_Encode g)) (he : EncAll A g) (x : Exam) (hx : x.Ok) : SpecBytes A (g "dactyl/dactylref23.Encode") [encExam x] (examBytes x) := by
  intro H
  have ht := hx.title
  have hl := hx.lenI
  have c1 : ∀ H, callI A (g "dactyl/dactylref01.Bytes") [.str x.title] H = some (.own 1 ((strBytes x.title).map encByte), H, []) := he.bytes _ (by omega)
  have c2 : ∀ H, callI A (g "dactyl/dactylref01.Int") [vi x.items.length] H = some (.own 1 ((intBytes x.items.length).map encByte), H, []) := he.int _ (ok_len (by omega))
  have l1 := strBytes_len (s := x.title) (by omega)
  have l2 := intBytes_len (ok_len (n := x.items.length) (by omega))
  have r1 : roomy ((strBytes x.title).length + (intBytes x.items.length).length) 1 = true := room (by omega)
  refine h.call (by simp [dactylref23_Encode]) (by kernel_rfl) ?_
  simp only [dactylref23_Encode]
  simp only [go_sem, ↓reduceIte, NA, NL, encExam]
  refine wc_draw' (keep := dactylref23_Encode_k0) (by rfl) (by rfl) ?_
  simp only [go_sem, ↓reduceIte, NB, NA, NL, ND, NE, BT, BF, dactylref23_Encode_k0, c1, c2, headOk_bytes, isEmpty_bytes, int_notEmpty, r1, bytes_append, logOk, apartL, orderOk_intro]
  refine enc_items he hl hx.items (pre := strBytes x.title ++ intBytes x.items.length) (by simp only [List.length_append]; omega) rfl (by simp only [go_sem, NB]) (by simp only [go_sem, NB]) (by simp only [go_sem]) ?_
  intro ρ2 bs R hf2 hR hbs g3
  have hfin : examBytes x = bs := by rw [hbs, examBytes]
  simp only [go_sem, ↓reduceIte, g3, allStill_rows (dataLL_map data_byte _), underLL_of_data (dataLL_map data_byte _), hfin]
end Go.Proofs.AM
end
section
open Nat renaming reduceBEq → NB, reduceAdd → NA, reduceSub → NS, reduceMul → NM, reduceLT → NL, reduceLeDiff → ND, reduceEqDiff → NE
open Int renaming reduceLT → IL, reduceLE → ID, reduceToNat → IT, reduceEq → IE, reduceBEq → IB, reduceBNe → IN, reduceAdd → IA, reduceSub → IS, reduceNeg → IM
open Bool renaming not_true → BT, not_false → BF
set_option linter.unusedVariables false
set_option maxRecDepth 8000
namespace Go.Proofs.AM
open Go
abbrev dactylref01_Same_d0 (g : String → Nat) : List AOper := [⟨some 17, .mov (.tmp 0), none, []⟩,⟨some 18, .mov (.tmp 5), none, []⟩,⟨some 19, .iaV (.tmp 17) (.tmp 18) 1, none, [0, 1]⟩,⟨some 20, .load 1 false (.tmp 19), none, [2, 0, 1]⟩,⟨some 21, .mov (.tmp 1), none, []⟩,⟨some 22, .mov (.tmp 5), none, []⟩,⟨some 23, .iaV (.tmp 21) (.tmp 22) 1, none, [4, 5]⟩,⟨some 24, .load 1 false (.tmp 23), none, [6, 4, 5]⟩,⟨some 25, .bin .neq .no (.tmp 20) (.tmp 24), none, [3, 2, 0, 1, 7, 6, 4, 5]⟩]
abbrev dactylref01_Same_k0 : List Nat := []
abbrev dactylref01_Same_l0 (g : String → Nat) : ACode := .seq (.seq (.region false [⟨some 11, .mov (.tmp 5), none, []⟩,⟨some 12, .mov (.tmp 0), none, []⟩,⟨some 13, .lenV (.tmp 12), none, [1]⟩,⟨some 14, .bin .lss .no (.tmp 11) (.tmp 13), none, [0, 2, 1]⟩]) <| .cond (.tmp 14) (.skip) (.exit 0)) <| .seq (.block 1 (.seq (.region true (dactylref01_Same_d0 g)) <| .cond (.tmp 25) (.seq (.region false [⟨some 4, .mov (.const (.bool false)), none, []⟩]) <| .ret) (.skip))) <| .region false [⟨some 15, .mov (.tmp 5), none, []⟩,⟨some 16, .bin .add .no (.tmp 15) (.const (.int .i64 1)), none, [0]⟩,⟨some 5, .mov (.tmp 16), none, [1, 0]⟩]
abbrev dactylref01_Same_w0 : List Nat := [11, 12, 13, 14, 17, 18, 19, 20, 21, 22, 23, 24, 25, 4, 15, 16, 5]
def dactylref01_Same (g : String → Nat) : AFn := ⟨26, [], [.tmp 4],
  .seq (.region false [⟨some 4, .mov (.const (.bool false)), none, []⟩]) <|
  .seq (.seq (.region false [⟨some 6, .mov (.tmp 0), none, []⟩,
    ⟨some 7, .lenV (.tmp 6), none, [0]⟩,
    ⟨some 8, .mov (.tmp 1), none, []⟩,
    ⟨some 9, .lenV (.tmp 8), none, [2]⟩,
    ⟨some 10, .bin .neq .no (.tmp 7) (.tmp 9), none, [1, 0, 3, 2]⟩]) <|
  .cond (.tmp 10) (.seq (.region false [⟨some 4, .mov (.const (.bool false)), none, []⟩]) <|
    .ret)
    (.skip)) <|
  .seq (.seq (.region false [⟨some 5, .mov (.const (.int .i64 0)), none, []⟩]) <|
  .block 0 (.loop (dactylref01_Same_l0 g))) <|
  .seq (.region false [⟨some 4, .mov (.const (.bool true)), none, []⟩]) <|
  .ret⟩
abbrev dactylref23_Same_d0 (g : String → Nat) : List AOper := [⟨some 5, .load 2 true (.tmp 2), none, []⟩,⟨some 6, .callv (.const (.fn (g "dactyl/dactylref23.Encode") [] [])) [(.tmp 5)], none, [0]⟩,⟨some 7, .load 2 true (.tmp 3), none, []⟩,⟨some 8, .callv (.const (.fn (g "dactyl/dactylref23.Encode") [] [])) [(.tmp 7)], none, [2, 1, 0]⟩,⟨some 9, .callv (.const (.fn (g "dactyl/dactylref01.Same") [] [])) [(.tmp 6), (.tmp 8)], none, [3, 2, 1, 0]⟩,⟨some 4, .mov (.tmp 9), none, [4, 3, 2, 1, 0]⟩]
abbrev dactylref23_Same_k0 : List Nat := [1, 2]
def dactylref23_Same (g : String → Nat) : AFn := ⟨10, [2, 3], [.tmp 4],
  .seq (.region false [⟨some 2, .box 2 (.tmp 0), none, []⟩,
    ⟨some 3, .box 2 (.tmp 1), none, []⟩,
    ⟨some 4, .mov (.const (.bool false)), none, []⟩]) <|
  .seq (.region true (dactylref23_Same_d0 g)) <|
  .ret⟩
abbrev dactylref31_Only_d0 (g : String → Nat) : List AOper := [⟨some 5, .load 2 true (.tmp 2), none, []⟩,⟨some 6, .callv (.const (.fn (g "dactyl/dactylref25.Erase") [] [])) [(.tmp 5)], none, [0]⟩,⟨some 7, .load 2 true (.tmp 3), none, []⟩,⟨some 8, .callv (.const (.fn (g "dactyl/dactylref25.Erase") [] [])) [(.tmp 7)], none, [2, 1, 0]⟩,⟨some 9, .callv (.const (.fn (g "dactyl/dactylref23.Same") [] [])) [(.tmp 6), (.tmp 8)], none, [3, 2, 1, 0]⟩,⟨some 4, .mov (.tmp 9), none, [4, 3, 2, 1, 0]⟩]
abbrev dactylref31_Only_k0 : List Nat := [1, 2]
def dactylref31_Only (g : String → Nat) : AFn := ⟨10, [2, 3], [.tmp 4],
  .seq (.region false [⟨some 2, .box 2 (.tmp 0), none, []⟩,
    ⟨some 3, .box 2 (.tmp 1), none, []⟩,
    ⟨some 4, .mov (.const (.bool false)), none, []⟩]) <|
  .seq (.region true (dactylref31_Only_d0 g)) <|
  .ret⟩
theorem eqv_byte {a b : UInt8} : ((a.toNat : Int) != (b.toNat : Int)) = !(eqv a b) := by
  have : ((a.toNat : Int) == (b.toNat : Int)) = eqv a b := by
    rw [Bool.eq_iff_iff, eqv_true, beq_iff_eq]
    constructor
    · intro h; exact UInt8.toNat_inj.1 (by omega)
    · intro h; rw [h]
  rw [bne, this]
theorem same01_spec {A : AProg} {g : String → Nat} (h : Has A g "dactyl/dactylref01.Same" (dactylref01_Same g)) (x y : List UInt8) (hx : x.length < 4611686018427387904) (H : List AObj) :
    callI A (g "dactyl/dactylref01.Same") [.sl false (x.map encByte), .sl false (y.map encByte)] H = some (.bool (eqv x y), H, []) := by
  refine h.call (by simp [dactylref01_Same]) (by kernel_rfl) ?_
  simp only [dactylref01_Same]
  simp only [go_sem, NB]
  refine branch_intro (fun hb => ?_) (fun hb => ?_)
  · have hne : x.length ≠ y.length := by intro h; simp [h] at hb
    simp only [go_sem, eqv_false (show x ≠ y from fun h => hne (by rw [h]))]
  · have hxy : x.length = y.length := by
      have : ¬ ((x.length : Int) ≠ y.length) := by simpa using hb
      omega
    simp only [go_sem]
    refine wl_for (W := dactylref01_Same_w0) (fun i ρ1 H1 wr => wr = [] ∧ ρ1 5 = vi i ∧ H1 = H ∧ eqL eqv x y = eqL eqv (x.drop i) (y.drop i)) x.length (by kernel_rfl) (by rfl) ⟨rfl, by simp only [go_sem], by simp only [go_sem], rfl⟩ ?_
    rintro i ρ1 H1 wr1 hil ⟨rfl, h5, rfl, hi⟩ hf
    have f0 : ρ1 0 = .sl false (x.map encByte) := by rw [hf 0 (by decide)]; simp only [go_sem, NB]
    have f1 : ρ1 1 = .sl false (y.map encByte) := by rw [hf 1 (by decide)]; simp only [go_sem, NB]
    simp only [go_sem, NB, f0, h5]
    refine branch_intro (fun hb => ?_) (fun hb => ?_)
    · have hlt : i < x.length := by simpa using hb
      have hlty : i < y.length := by omega
      simp only [go_sem]
      refine wc_draw' (keep := dactylref01_Same_k0) (by rfl) (by rfl) ?_
      simp only [go_sem, ↓reduceIte, NB, NA, dactylref01_Same_k0, f0, f1, h5, hlt, getElem?_map_of hlt, getElem?_map_of hlty, encByte, eqv_byte]
      refine branch_intro (fun hb => ?_) (fun hb => ?_)
      · have he : eqv x[i] y[i] = false := by simpa using hb
        rw [eqL_drop hlt hlty, he, Bool.false_and, eqL_eqv] at hi
        simp only [go_sem, hi]
      · have he : eqv x[i] y[i] = true := by simpa using hb
        simp only [go_sem, NB, h5]
        rw [wrap_succ (by omega)]
        exact ⟨hlt, rfl, by rw [hi, eqL_drop hlt hlty, he, Bool.true_and]⟩
    · have hlt : i = x.length := by
        have : ¬ i < x.length := by simpa using hb
        omega
      subst hlt
      rw [List.drop_eq_nil_of_le (Nat.le_refl _), List.drop_eq_nil_of_le (by omega), eqL_eqv] at hi
      simp only [go_sem, hi, eqL]
theorem same23_spec {A : AProg} {g : String → Nat} (h : Has A g "dactyl/dactylref23.Same" (dactylref23_Same g)) (h1 : Has A g "dactyl/dactylref01.Same" (dactylref01_Same g))
    (he : ∀ x : Exam, x.Ok → SpecBytes A (g "dactyl/dactylref23.Encode") [encExam x] (examBytes x)) (a b : Exam) (ha : a.Ok) (hb : b.Ok) (H : List AObj) :
    callI A (g "dactyl/dactylref23.Same") [encExam a, encExam b] H = some (.bool (eqv (examBytes a) (examBytes b)), H, []) := by
  refine h.call (by simp [dactylref23_Same]) (by kernel_rfl) ?_
  simp only [dactylref23_Same]
  have c1 := he a ha
  have c2 := he b hb
  have hlen : (examBytes a).length < 4611686018427387904 := by
    have ht := ha.title
    have hl := ha.lenI
    have l1 := strBytes_len (s := a.title) (by omega)
    have l2 := intBytes_len (ok_len (n := a.items.length) (by omega))
    have htot : (a.items.flatMap itemBytes).length ≤ a.items.length * 9000000 := flat_le (fun x hx => itemBytes_len (ha.items x hx))
    unfold examBytes; simp only [List.length_append]; omega
  have c3 := fun H => same01_spec h1 (examBytes a) (examBytes b) hlen H
  simp only [SpecBytes, encExam] at c1 c2
  simp only [go_sem, ↓reduceIte, NB, NA, NL, NE, encExam]
  refine wc_draw' (keep := dactylref23_Same_k0) (by rfl) (by rfl) ?_
  simp only [go_sem, ↓reduceIte, NB, NA, NE, BF, dactylref23_Same_k0, c1, c2, c3, logOk, apartL, orderOk_intro]
theorem only31_spec {A : AProg} {g : String → Nat} (h : Has A g "dactyl/dactylref31.Only" (dactylref31_Only g))
    (he : ∀ (x : Exam) (H : List AObj), x.Ok → callI A (g "dactyl/dactylref25.Erase") [encExam x] H = some (encExam (eraseExam x), H, [])) (ho : ∀ x : Exam, x.Ok → (eraseExam x).Ok)
    (hs : ∀ (a b : Exam) (H : List AObj), a.Ok → b.Ok → callI A (g "dactyl/dactylref23.Same") [encExam a, encExam b] H = some (.bool (eqv (examBytes a) (examBytes b)), H, []))
    (a b : Exam) (ha : a.Ok) (hb : b.Ok) (H : List AObj) :
    callI A (g "dactyl/dactylref31.Only") [encExam a, encExam b] H = some (.bool (eqv (examBytes (eraseExam a)) (examBytes (eraseExam b))), H, []) := by
  refine h.call (by simp [dactylref31_Only]) (by kernel_rfl) ?_
  simp only [dactylref31_Only]
  have h1 := fun H => he a H ha
  have h2 := fun H => he b H hb
  have h3 := fun H => hs (eraseExam a) (eraseExam b) H (ho a ha) (ho b hb)
  simp only [encExam] at h1 h2 h3
  simp only [go_sem, ↓reduceIte, NB, NA, NL, NE, encExam]
  refine wc_draw' (keep := dactylref31_Only_k0) (by rfl) (by rfl) ?_
  simp only [go_sem, ↓reduceIte, NB, NA, NE, BF, dactylref31_Only_k0, h1, h2, h3, logOk, apartL, orderOk_intro]
end Go.Proofs.AM
end
