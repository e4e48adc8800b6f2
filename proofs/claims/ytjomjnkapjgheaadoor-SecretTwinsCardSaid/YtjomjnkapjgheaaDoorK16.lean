/- Part 16 of the proof that stands in the last text of this folder (lemmas; no statement of its own). -/
import Derived.Test.YtjomjnkapjgheaaDoorK13
import Derived.Test.YtjomjnkapjgheaaDoorK14
section
open Nat renaming reduceBEq → NB, reduceAdd → NA, reduceSub → NS, reduceMul → NM, reduceLT → NL, reduceLeDiff → ND, reduceEqDiff → NE
open Int renaming reduceLT → IL, reduceLE → ID, reduceToNat → IT, reduceEq → IE, reduceBEq → IB, reduceBNe → IN, reduceAdd → IA, reduceSub → IS, reduceNeg → IM
open Bool renaming not_true → BT, not_false → BF
set_option linter.unusedVariables false
set_option maxRecDepth 8000
namespace Go.Proofs.AM
open Go
abbrev source_Erase_d0 (g : String → Nat) : List AOper := [⟨some 34, .mov (.tmp 5), none, []⟩,⟨some 35, .mov (.tmp 6), none, []⟩,⟨some 36, .mov (.tmp 5), none, []⟩,⟨some 37, .mov (.tmp 6), none, []⟩,⟨some 38, .mov (.tmp 5), none, []⟩,⟨some 39, .mov (.tmp 6), none, []⟩,⟨some 40, .mov (.tmp 3), none, []⟩,⟨some 41, .fa 0 (.tmp 7), none, []⟩,⟨some 42, .load 1 false (.tmp 41), none, [7]⟩,⟨some 43, .look (.str []) (.tmp 40) (.tmp 42) false, none, [6, 8, 7]⟩,⟨some 44, .fa 6 (.tmp 7), none, []⟩,⟨some 45, .load 1 false (.tmp 44), none, [10]⟩,⟨some 46, .lenV (.tmp 45), none, [11, 10]⟩,⟨some 47, .mks 1 16 [(.str [])] (.tmp 46) (.tmp 46), none, [12, 11, 10]⟩,⟨some 48, .iaV (.tmp 34) (.tmp 35) 7, none, [0, 1, 9, 6, 8, 7]⟩,⟨some 49, .fa 5 (.tmp 48), none, [14, 0, 1, 9, 6, 8, 7]⟩,⟨none, .store 1 (.tmp 49) (.const (.int .i64 0)), none, [15, 14, 0, 1, 9, 6, 8, 7]⟩,⟨some 50, .iaV (.tmp 36) (.tmp 37) 7, none, [2, 3, 16, 15, 14, 0, 1, 9, 6, 8, 7]⟩,⟨some 51, .fa 4 (.tmp 50), none, [17, 2, 3, 16, 15, 14, 0, 1, 9, 6, 8, 7]⟩,⟨none, .store 1 (.tmp 51) (.tmp 43), none, [18, 17, 2, 3, 16, 15, 14, 0, 1, 9, 6, 8, 7]⟩,⟨some 52, .iaV (.tmp 38) (.tmp 39) 7, none, [4, 5, 13, 12, 11, 10, 19, 18, 17, 2, 3, 16, 15, 14, 0, 1, 9, 6, 8, 7]⟩,⟨some 53, .fa 6 (.tmp 52), none, [20, 4, 5, 13, 12, 11, 10, 19, 18, 17, 2, 3, 16, 15, 14, 0, 1, 9, 6, 8, 7]⟩,⟨none, .store 1 (.tmp 53) (.tmp 47), none, [21, 20, 4, 5, 13, 12, 11, 10, 19, 18, 17, 2, 3, 16, 15, 14, 0, 1, 9, 6, 8, 7]⟩]
abbrev source_Erase_k0 : List Nat := [11, 16, 19]
abbrev source_Erase_l1 (g : String → Nat) : ACode := .seq (.region false [⟨some 30, .bin .lss .no (.tmp 29) (.tmp 28), none, []⟩]) <| .seq (.cond (.tmp 30) (.skip) (.exit 2)) <| .seq (.block 3 (.seq (.region false [⟨some 31, .mov (.tmp 29), none, []⟩,⟨some 32, .iaV (.tmp 27) (.tmp 29) 7, none, []⟩,⟨some 33, .load 7 true (.tmp 32), none, [1]⟩,⟨some 7, .alloc [(.int .i64 0), (.sl true []), (.sl true []), (.sl true []), (.str []), (.int .i64 0), (.sl true [])], none, []⟩,⟨some 6, .mov (.tmp 31), none, [0, 2, 1, 3]⟩,⟨none, .store 7 (.tmp 7) (.tmp 33), none, [4, 0, 2, 1, 3]⟩]) <| .region true (source_Erase_d0 g))) <| .region false [⟨some 54, .bin .add .no (.tmp 29) (.const (.int .i64 1)), none, []⟩,⟨some 29, .mov (.tmp 54), none, [0]⟩]
abbrev source_Erase_w1 : List Nat := [30, 31, 32, 33, 7, 6, 34, 35, 36, 37, 38, 39, 40, 41, 42, 43, 44, 45, 46, 47, 48, 49, 50, 51, 52, 53, 54, 29]
abbrev source_Erase_l0 (g : String → Nat) : ACode := .seq (.region false [⟨some 18, .bin .lss .no (.tmp 17) (.tmp 16), none, []⟩]) <| .seq (.cond (.tmp 18) (.skip) (.exit 0)) <| .seq (.block 1 (.seq (.region false [⟨some 19, .mov (.tmp 17), none, []⟩,⟨some 4, .mov (.tmp 19), none, [0]⟩]) <| .seq (.region false [⟨some 20, .fa 1 (.tmp 1), none, []⟩,⟨some 21, .load 1 false (.tmp 20), none, [0]⟩,⟨some 22, .mov (.tmp 4), none, []⟩,⟨some 23, .iaV (.tmp 21) (.tmp 22) 4, none, [1, 0, 2]⟩,⟨some 24, .fa 3 (.tmp 23), none, [3, 1, 0, 2]⟩,⟨some 25, .load 1 false (.tmp 24), none, [4, 3, 1, 0, 2]⟩,⟨some 26, .callv (.const (.fn (g "slices.Clone[[]dactyl/api.Question,dactyl/api.Question]") [] [])) [(.tmp 25)], none, [5, 4, 3, 1, 0, 2]⟩,⟨some 5, .mov (.tmp 26), none, [6, 5, 4, 3, 1, 0, 2]⟩]) <| .seq (.seq (.region false [⟨some 27, .mov (.tmp 5), none, []⟩,⟨some 28, .lenV (.tmp 27), none, [0]⟩,⟨some 29, .mov (.const (.int .i64 0)), none, []⟩]) <| .block 2 (.loop (source_Erase_l1 g))) <| .seq (.frz [(0, 5)]) <| .region false [⟨some 55, .fa 1 (.tmp 1), none, []⟩,⟨some 56, .load 1 false (.tmp 55), none, [0]⟩,⟨some 57, .mov (.tmp 4), none, []⟩,⟨some 58, .mov (.tmp 5), none, []⟩,⟨some 59, .iaV (.tmp 56) (.tmp 57) 4, none, [1, 0, 2, 3]⟩,⟨some 60, .fa 3 (.tmp 59), none, [4, 1, 0, 2, 3]⟩,⟨none, .store 1 (.tmp 60) (.tmp 58), none, [5, 4, 1, 0, 2, 3]⟩])) <| .region false [⟨some 61, .bin .add .no (.tmp 17) (.const (.int .i64 1)), none, []⟩,⟨some 17, .mov (.tmp 61), none, [0]⟩]
abbrev source_Erase_w0 : List Nat := [18, 19, 4, 20, 21, 22, 23, 24, 25, 26, 5, 27, 28, 29, 30, 31, 32, 33, 7, 6, 34, 35, 36, 37, 38, 39, 40, 41, 42, 43, 44, 45, 46, 47, 48, 49, 50, 51, 52, 53, 54, 29, 5, 55, 56, 57, 58, 59, 60, 61, 17]
def source_Erase (g : String → Nat) : AFn := ⟨63, [1, 2, 8, 12, 26, 7], [.cell 2 2 true],
  .seq (.region false [⟨some 1, .box 2 (.tmp 0), none, []⟩,
    ⟨some 2, .alloc [(.str []), (.sl true [])], none, []⟩]) <|
  .seq (.region false [⟨some 8, .mkmap, none, []⟩,
    ⟨none, .ins (.tmp 8) (.const (.int .i64 0)) (.const (.str [48])), none, [0]⟩,
    ⟨none, .ins (.tmp 8) (.const (.int .i64 1)) (.const (.str [48])), none, [0]⟩,
    ⟨none, .ins (.tmp 8) (.const (.int .i64 2)) (.const (.str [45])), none, [0]⟩,
    ⟨some 9, .mov (.tmp 8), none, [1, 2, 3, 0]⟩,
    ⟨some 3, .mov (.tmp 9), none, [4, 1, 2, 3, 0]⟩]) <|
  .seq (.region false [⟨some 10, .fa 1 (.tmp 1), none, []⟩,
    ⟨some 11, .load 1 false (.tmp 10), none, [0]⟩,
    ⟨some 12, .callv (.const (.fn (g "slices.Clone[[]dactyl/api.Item,dactyl/api.Item]") [] [])) [(.tmp 11)], none, [1, 0]⟩,
    ⟨some 13, .fa 1 (.tmp 1), none, [2, 1, 0]⟩,
    ⟨none, .store 1 (.tmp 13) (.tmp 12), none, [3, 2, 1, 0]⟩]) <|
  .seq (.seq (.region false [⟨some 14, .fa 1 (.tmp 1), none, []⟩,
    ⟨some 15, .load 1 false (.tmp 14), none, [0]⟩,
    ⟨some 16, .lenV (.tmp 15), none, [1, 0]⟩,
    ⟨some 17, .mov (.const (.int .i64 0)), none, []⟩]) <|
  .block 0 (.loop (source_Erase_l0 g))) <|
  .seq (.region false [⟨some 62, .load 2 true (.tmp 1), none, []⟩,
    ⟨none, .store 2 (.tmp 2) (.tmp 62), none, [0]⟩]) <|
  .ret⟩
abbrev dactylref25_Erase_l1 (g : String → Nat) : ACode := .seq (.seq (.region false [⟨some 24, .mov (.tmp 7), none, []⟩,⟨some 25, .fa 3 (.tmp 5), none, []⟩,⟨some 26, .load 1 false (.tmp 25), none, [1]⟩,⟨some 27, .lenV (.tmp 26), none, [2, 1]⟩,⟨some 28, .bin .lss .no (.tmp 24) (.tmp 27), none, [0, 3, 2, 1]⟩]) <| .cond (.tmp 28) (.skip) (.exit 2)) <| .seq (.block 3 (.seq (.region false [⟨some 31, .fa 3 (.tmp 5), none, []⟩,⟨some 32, .load 1 false (.tmp 31), none, [0]⟩,⟨some 33, .mov (.tmp 7), none, []⟩,⟨some 34, .iaV (.tmp 32) (.tmp 33) 7, none, [1, 0, 2]⟩,⟨some 35, .load 7 true (.tmp 34), none, [3, 1, 0, 2]⟩,⟨some 8, .alloc [(.int .i64 0), (.sl true []), (.sl true []), (.sl true []), (.str []), (.int .i64 0), (.sl true [])], none, []⟩,⟨none, .store 7 (.tmp 8) (.tmp 35), none, [4, 3, 1, 0, 2, 5]⟩]) <| .seq (.region false [⟨some 36, .fa 5 (.tmp 8), none, []⟩,⟨none, .store 1 (.tmp 36) (.const (.int .i64 0)), none, [0]⟩]) <| .seq (.region false [⟨some 37, .fa 4 (.tmp 8), none, []⟩,⟨none, .store 1 (.tmp 37) (.const (.str [])), none, [0]⟩]) <| .seq (.seq (.region false [⟨some 38, .fa 0 (.tmp 8), none, []⟩,⟨some 39, .load 1 false (.tmp 38), none, [0]⟩,⟨some 40, .bin .eql .no (.tmp 39) (.const (.int .i64 0)), none, [1, 0]⟩,⟨some 41, .mov (.tmp 40), none, [2, 1, 0]⟩,⟨some 42, .fa 0 (.tmp 8), some (some 41, false), [3, 2, 1, 0]⟩,⟨some 43, .load 1 false (.tmp 42), some (some 41, false), [4, 3, 2, 1, 0]⟩,⟨some 44, .bin .eql .no (.tmp 43) (.const (.int .i64 1)), some (some 41, false), [5, 4, 3, 2, 1, 0]⟩,⟨some 45, .pick (.tmp 41) (.const (.bool true)) (.tmp 44), none, [6, 5, 4, 3, 2, 1, 0]⟩]) <| .cond (.tmp 45) (.region false [⟨some 46, .fa 4 (.tmp 8), none, []⟩,⟨none, .store 1 (.tmp 46) (.const (.str [48])), none, [0]⟩]) (.skip)) <| .seq (.seq (.region false [⟨some 47, .fa 0 (.tmp 8), none, []⟩,⟨some 48, .load 1 false (.tmp 47), none, [0]⟩,⟨some 49, .bin .eql .no (.tmp 48) (.const (.int .i64 2)), none, [1, 0]⟩]) <| .cond (.tmp 49) (.region false [⟨some 50, .fa 4 (.tmp 8), none, []⟩,⟨none, .store 1 (.tmp 50) (.const (.str [45])), none, [0]⟩]) (.skip)) <| .seq (.region false [⟨some 51, .fa 6 (.tmp 8), none, []⟩,⟨some 52, .load 1 false (.tmp 51), none, [0]⟩,⟨some 53, .lenV (.tmp 52), none, [1, 0]⟩,⟨some 54, .mks 1 16 [(.str [])] (.tmp 53) (.tmp 53), none, [2, 1, 0]⟩,⟨some 55, .fa 6 (.tmp 8), none, [3, 2, 1, 0]⟩,⟨none, .store 1 (.tmp 55) (.tmp 54), none, [4, 3, 2, 1, 0]⟩]) <| .region false [⟨some 56, .mov (.tmp 6), none, []⟩,⟨some 57, .load 7 true (.tmp 8), none, []⟩,⟨some 58, .bsl 7 [(.int .i64 0), (.sl false []), (.sl false []), (.sl false []), (.str []), (.int .i64 0), (.sl false [])] 1 [(0, (.tmp 57))], none, [1]⟩,⟨some 59, .app 7 128 (.tmp 56) (.tmp 58), none, [0, 2, 1]⟩,⟨some 6, .mov (.tmp 59), none, [3, 0, 2, 1]⟩])) <| .region false [⟨some 29, .mov (.tmp 7), none, []⟩,⟨some 30, .bin .add .no (.tmp 29) (.const (.int .i64 1)), none, [0]⟩,⟨some 7, .mov (.tmp 30), none, [1, 0]⟩]
abbrev dactylref25_Erase_w1 : List Nat := [24, 25, 26, 27, 28, 31, 32, 33, 34, 35, 8, 36, 37, 38, 39, 40, 41, 42, 43, 44, 45, 46, 47, 48, 49, 50, 51, 52, 53, 54, 55, 56, 57, 58, 59, 6, 29, 30, 7]
abbrev dactylref25_Erase_l0 (g : String → Nat) : ACode := .seq (.seq (.region false [⟨some 12, .mov (.tmp 4), none, []⟩,⟨some 13, .fa 1 (.tmp 1), none, []⟩,⟨some 14, .load 1 false (.tmp 13), none, [1]⟩,⟨some 15, .lenV (.tmp 14), none, [2, 1]⟩,⟨some 16, .bin .lss .no (.tmp 12) (.tmp 15), none, [0, 3, 2, 1]⟩]) <| .cond (.tmp 16) (.skip) (.exit 0)) <| .seq (.block 1 (.seq (.region false [⟨some 19, .fa 1 (.tmp 1), none, []⟩,⟨some 20, .load 1 false (.tmp 19), none, [0]⟩,⟨some 21, .mov (.tmp 4), none, []⟩,⟨some 22, .iaV (.tmp 20) (.tmp 21) 4, none, [1, 0, 2]⟩,⟨some 23, .load 4 true (.tmp 22), none, [3, 1, 0, 2]⟩,⟨some 5, .alloc [(.str []), (.sl true []), (.sl true []), (.sl true [])], none, []⟩,⟨none, .store 4 (.tmp 5) (.tmp 23), none, [4, 3, 1, 0, 2, 5]⟩]) <| .seq (.region false [⟨some 6, .mov (.const (.sl true [])), none, []⟩]) <| .seq (.seq (.region false [⟨some 7, .mov (.const (.int .i64 0)), none, []⟩]) <| .block 2 (.loop (dactylref25_Erase_l1 g))) <| .seq (.region false [⟨some 60, .mov (.tmp 6), none, []⟩,⟨some 61, .fa 3 (.tmp 5), none, [0]⟩,⟨none, .store 1 (.tmp 61) (.tmp 60), none, [1, 0]⟩]) <| .region false [⟨some 62, .fa 1 (.tmp 3), none, []⟩,⟨some 63, .load 1 false (.tmp 62), none, [0]⟩,⟨some 64, .load 4 true (.tmp 5), none, []⟩,⟨some 65, .bsl 4 [(.str []), (.sl false []), (.sl false []), (.sl false [])] 1 [(0, (.tmp 64))], none, [2]⟩,⟨some 66, .app 4 88 (.tmp 63) (.tmp 65), none, [1, 0, 3, 2]⟩,⟨some 67, .fa 1 (.tmp 3), none, [4, 1, 0, 3, 2]⟩,⟨none, .store 1 (.tmp 67) (.tmp 66), none, [5, 4, 1, 0, 3, 2]⟩])) <| .region false [⟨some 17, .mov (.tmp 4), none, []⟩,⟨some 18, .bin .add .no (.tmp 17) (.const (.int .i64 1)), none, [0]⟩,⟨some 4, .mov (.tmp 18), none, [1, 0]⟩]
abbrev dactylref25_Erase_w0 : List Nat := [12, 13, 14, 15, 16, 19, 20, 21, 22, 23, 5, 6, 7, 24, 25, 26, 27, 28, 31, 32, 33, 34, 35, 8, 36, 37, 38, 39, 40, 41, 42, 43, 44, 45, 46, 47, 48, 49, 50, 51, 52, 53, 54, 55, 56, 57, 58, 59, 6, 29, 30, 7, 60, 61, 62, 63, 64, 65, 66, 67, 17, 18, 4]
def dactylref25_Erase (g : String → Nat) : AFn := ⟨69, [1, 2, 3, 5, 8, 59, 66], [.cell 2 2 true],
  .seq (.region false [⟨some 1, .box 2 (.tmp 0), none, []⟩,
    ⟨some 2, .alloc [(.str []), (.sl true [])], none, []⟩]) <|
  .seq (.region false [⟨some 9, .fa 0 (.tmp 1), none, []⟩,
    ⟨some 10, .load 1 false (.tmp 9), none, [0]⟩,
    ⟨some 11, .build [(.str []), (.sl true [])] [(0, 1, (.tmp 10))], none, [1, 0]⟩,
    ⟨some 3, .alloc [(.str []), (.sl true [])], none, []⟩,
    ⟨none, .store 2 (.tmp 3) (.tmp 11), none, [2, 1, 0, 3]⟩]) <|
  .seq (.seq (.region false [⟨some 4, .mov (.const (.int .i64 0)), none, []⟩]) <|
  .block 0 (.loop (dactylref25_Erase_l0 g))) <|
  .seq (.region false [⟨some 68, .load 2 true (.tmp 3), none, []⟩,
    ⟨none, .store 2 (.tmp 2) (.tmp 68), none, [0]⟩]) <|
  .ret⟩
def eraseKey (k : Int) : Str := if k = 0 then [48] else if k = 1 then [48] else if k = 2 then [45] else []
def eraseQ (q : Question) : Question := { q with points := 0, key := eraseKey q.kind, reasons := List.replicate q.reasons.length [] }
def eraseItem (x : Item) : Item := { x with ask := x.ask.map eraseQ }
def eraseExam (x : Exam) : Exam := { x with items := x.items.map eraseItem }
theorem kinds (k : Int) : k = 0 ∨ k = 1 ∨ k = 2 ∨ (k ≠ 0 ∧ k ≠ 1 ∧ k ≠ 2) := by omega
theorem bne_of {a b : Int} (h : a ≠ b) : (a == b) = false := by simpa using h
theorem erase25_asks {A : AProg} {g : String → Nat} {H0 : List AObj} {Q : AExit → SEnv → List AObj → List Nat → Prop} {tg}
    {vt : Nat} {o0 o1 o2 o4 o5 o6 : AObj} {c0 c1 c2 : AV} {l : List Question} (hl : l.length ≤ 16) (hq : ∀ q ∈ l, q.Ok) {ρ : SEnv}
    (h5 : ρ 5 = .ptr (H0.length + 3) vt 0) (h6 : ρ 6 = .sl true []) (h7 : ρ 7 = vi 0)
    (hQ : ∀ ρ' o4 o5, (∀ t, dactylref25_Erase_w1.contains t = false → ρ' t = ρ t) → GSl (H0.length + 5) 7 ((l.map eraseQ).map encQ) (ρ' 6) o5 →
      Q (.exit 2) ρ' (H0 ++ [o0, o1, o2, .box vt [c0, c1, c2, .sl false (l.map encQ)], o4, o5, o6]) []) :
    wl A 69 ⟨H0.length, [1, 2, 3, 5, 8, 59, 66]⟩ (dactylref25_Erase_l1 g) ρ (H0 ++ [o0, o1, o2, .box vt [c0, c1, c2, .sl false (l.map encQ)], o4, o5, o6]) [] Q tg := by
  refine wl_for2 (W := dactylref25_Erase_w1) (fun i ρ1 H wr => wr = [] ∧ ρ1 7 = vi i ∧ ∃ o4 o5, H = H0 ++ [o0, o1, o2, .box vt [c0, c1, c2, .sl false (l.map encQ)], o4, o5, o6] ∧
    GSl (H0.length + 5) 7 ((firsts (fun _ => eraseQ) l i).map encQ) (ρ1 6) o5) l.length
    (fun ρ1 H wr => wr = [] ∧ ∃ o4 o5, H = H0 ++ [o0, o1, o2, .box vt [c0, c1, c2, .sl false (l.map encQ)], o4, o5, o6] ∧ GSl (H0.length + 5) 7 ((l.map eraseQ).map encQ) (ρ1 6) o5)
    (by kernel_rfl) (by rfl) ⟨rfl, h7, o4, o5, rfl, by rw [h6]; exact .nil _⟩ ?_ (by
      rintro ρ' H' wr' ⟨rfl, o4, o5, rfl, hg⟩ hf
      exact hQ ρ' o4 o5 hf hg)
  rintro i ρ1 H1 wr1 hil ⟨rfl, hi7, o4, o5, rfl, hg⟩ hf
  have f5 : ρ1 5 = .ptr (H0.length + 3) vt 0 := (hf 5 (by decide)).trans h5
  simp only [go_sem, ↓reduceIte, NB, NA, f5, hi7]
  refine branch_intro (fun hb => ?_) (fun hb => ?_)
  · have hlt : i < l.length := by simpa using hb
    have hqi := hq l[i] (List.getElem_mem hlt)
    have hlr := hqi.lenR
    have hroom : roomy l[i].reasons.length 16 = true := by unfold roomy; simp; omega
    obtain ⟨v', o', hg', happ⟩ := hg.app (new := [encQ (eraseQ l[i])]) (bytes := 128) (by simp) (by rfl) (by rw [List.length_map, firsts_length hil]; simp; omega)
    have hsu : (firsts (fun _ => eraseQ) l i).map encQ ++ [encQ (eraseQ l[i])] = (firsts (fun _ => eraseQ) l (i + 1)).map encQ := map_firsts_succ (f := fun _ => eraseQ) hlt rfl
    rw [hsu] at hg'
    simp only [encQ, eraseQ, List.map_replicate, encStr] at happ
    rcases kinds l[i].kind with hk | hk | hk | ⟨hk0, hk1, hk2⟩
    · rw [show eraseKey l[i].kind = [48] by rw [hk]; rfl, hk] at happ
      simp only [go_sem, ↓reduceIte, NB, NA, NL, ND, NE, IB, f5, hi7, getElem?_map_of hlt, encQ, hk, hroom, happ]
      rw [wrap_succ (by omega)]
      exact ⟨hlt, rfl, _, _, rfl, hg'⟩
    · rw [show eraseKey l[i].kind = [48] by rw [hk]; rfl, hk] at happ
      simp only [go_sem, ↓reduceIte, NB, NA, NL, ND, NE, IB, f5, hi7, getElem?_map_of hlt, encQ, hk, hroom, happ]
      rw [wrap_succ (by omega)]
      exact ⟨hlt, rfl, _, _, rfl, hg'⟩
    · rw [show eraseKey l[i].kind = [45] by rw [hk]; rfl, hk] at happ
      simp only [go_sem, ↓reduceIte, NB, NA, NL, ND, NE, IB, f5, hi7, getElem?_map_of hlt, encQ, hk, hroom, happ]
      rw [wrap_succ (by omega)]
      exact ⟨hlt, rfl, _, _, rfl, hg'⟩
    · rw [show eraseKey l[i].kind = [] by simp [eraseKey, hk0, hk1, hk2]] at happ
      simp only [go_sem, ↓reduceIte, NB, NA, NL, ND, NE, f5, hi7, getElem?_map_of hlt, encQ, bne_of hk0, bne_of hk1, bne_of hk2, hroom, happ]
      rw [wrap_succ (by omega)]
      exact ⟨hlt, rfl, _, _, rfl, hg'⟩
  · have hlt : i = l.length := by
      have : ¬ i < l.length := by simpa using hb
      omega
    subst hlt
    rw [firsts_all, mapIdx_const] at hg
    simp only [go_sem, NB]
    exact ⟨o4, o5, rfl, hg⟩
theorem erase25_items {A : AProg} {g : String → Nat} {H0 : List AObj} {Q : AExit → SEnv → List AObj → List Nat → Prop} {tg}
    {vx vo : Nat} {t0 t1 : AV} {o1 o3 o4 o5 o6 : AObj} {l : List Item} (hl : l.length ≤ 16) (hq : ∀ x ∈ l, x.Ok) {ρ : SEnv}
    (h1 : ρ 1 = .ptr H0.length vx 0) (h3 : ρ 3 = .ptr (H0.length + 2) vo 0) (h4 : ρ 4 = vi 0)
    (hQ : ∀ ρ' v o3 o4 o5 o6, (∀ t, dactylref25_Erase_w0.contains t = false → ρ' t = ρ t) → GSl (H0.length + 6) 4 ((l.map eraseItem).map encItem) v o6 →
      Q (.exit 0) ρ' (H0 ++ [.box vx [t0, .sl false (l.map encItem)], o1, .box vo [t1, v], o3, o4, o5, o6]) []) :
    wl A 69 ⟨H0.length, [1, 2, 3, 5, 8, 59, 66]⟩ (dactylref25_Erase_l0 g) ρ (H0 ++ [.box vx [t0, .sl false (l.map encItem)], o1, .box vo [t1, .sl true []], o3, o4, o5, o6]) [] Q tg := by
  refine wl_for2 (W := dactylref25_Erase_w0) (fun i ρ1 H wr => wr = [] ∧ ρ1 4 = vi i ∧ ∃ v o3 o4 o5 o6, H = H0 ++ [.box vx [t0, .sl false (l.map encItem)], o1, .box vo [t1, v], o3, o4, o5, o6] ∧
    GSl (H0.length + 6) 4 ((firsts (fun _ => eraseItem) l i).map encItem) v o6) l.length
    (fun ρ1 H wr => wr = [] ∧ ∃ v o3 o4 o5 o6, H = H0 ++ [.box vx [t0, .sl false (l.map encItem)], o1, .box vo [t1, v], o3, o4, o5, o6] ∧ GSl (H0.length + 6) 4 ((l.map eraseItem).map encItem) v o6)
    (by kernel_rfl) (by rfl) ⟨rfl, h4, .sl true [], o3, o4, o5, o6, rfl, .nil _⟩ ?_ (by
      rintro ρ' H' wr' ⟨rfl, v, o3, o4, o5, o6, rfl, hg⟩ hf
      exact hQ ρ' v o3 o4 o5 o6 hf hg)
  rintro i ρ1 H1 wr1 hil ⟨rfl, hi4, v, o3, o4, o5, o6, rfl, hg⟩ hf
  have f1 : ρ1 1 = .ptr H0.length vx 0 := (hf 1 (by decide)).trans h1
  have f3 : ρ1 3 = .ptr (H0.length + 2) vo 0 := (hf 3 (by decide)).trans h3
  simp only [go_sem, ↓reduceIte, NB, NA, f1, hi4]
  refine branch_intro (fun hb => ?_) (fun hb => ?_)
  · have hlt : i < l.length := by simpa using hb
    have hqi := hq l[i] (List.getElem_mem hlt)
    simp only [go_sem, ↓reduceIte, NB, NA, NL, NE, f1, hi4, getElem?_map_of hlt, encItem]
    refine erase25_asks (l := l[i].ask) hqi.lenA hqi.ask (by simp only [go_sem, NB]) (by simp only [go_sem, NB]) (by simp only [go_sem]) ?_
    intro ρ3 o4' o5' hf3 hg3
    have g1 : ρ3 1 = .ptr H0.length vx 0 := by rw [hf3 1 (by decide)]; simp only [go_sem, NB, f1]
    have g3 : ρ3 3 = .ptr (H0.length + 2) vo 0 := by rw [hf3 3 (by decide)]; simp only [go_sem, NB, f3]
    have g4 : ρ3 4 = vi i := by rw [hf3 4 (by decide)]; simp only [go_sem, NB, hi4]
    have g5 : ρ3 5 = .ptr (H0.length + 3) (o3.ver + 1) 0 := by rw [hf3 5 (by decide)]; simp only [go_sem, NB]
    obtain ⟨f', lf, o6'', hl1, hl2, hl3⟩ := hg3.lend (dataLL_map data_q _)
    obtain ⟨v', o', hg', happ⟩ := hg.app (new := [encItem (eraseItem l[i])]) (bytes := 88) (by simp) (by rfl) (by rw [List.length_map, firsts_length hil]; simp; omega)
    have hsu : (firsts (fun _ => eraseItem) l i).map encItem ++ [encItem (eraseItem l[i])] = (firsts (fun _ => eraseItem) l (i + 1)).map encItem := map_firsts_succ (f := fun _ => eraseItem) hlt rfl
    rw [hsu] at hg'
    simp only [encItem, eraseItem] at happ
    simp only [go_sem, ↓reduceIte, NB, NA, NL, NE, g3, g4, g5, hg3.cellOk, hg3.strip1, hl1, hl2, hl3, happ, hg'.cellOk, hg'.strip1]
    rw [wrap_succ (by omega)]
    exact ⟨hlt, rfl, _, _, _, _, _, rfl, hg'⟩
  · have hlt : i = l.length := by
      have : ¬ i < l.length := by simpa using hb
      omega
    subst hlt
    rw [firsts_all, mapIdx_const] at hg
    simp only [go_sem]
    exact ⟨v, o3, o4, o5, o6, rfl, hg⟩
theorem erase25_spec {A : AProg} {g : String → Nat} (h : Has A g "dactyl/dactylref25.Erase" (dactylref25_Erase g)) (x : Exam) (hx : x.Ok) (H : List AObj) :
    callI A (g "dactyl/dactylref25.Erase") [encExam x] H = some (encExam (eraseExam x), H, []) := by
  refine h.call (by simp [dactylref25_Erase]) (by kernel_rfl) ?_
  simp only [dactylref25_Erase]
  simp only [go_sem, ↓reduceIte, NB, NA, NL, ND, NE, encExam]
  refine erase25_items (l := x.items) hx.lenI hx.items (by simp only [go_sem, NB]) (by simp only [go_sem, NB]) (by simp only [go_sem]) ?_
  intro ρ2 v o3 o4 o5 o6 hf2 hg
  have g2 : ρ2 2 = .ptr (H.length + 1) 1 0 := by rw [hf2 2 (by decide)]; simp only [go_sem, NB]
  have g3 : ρ2 3 = .ptr (H.length + 2) 1 0 := by rw [hf2 3 (by decide)]; simp only [go_sem, NB]
  obtain ⟨f', lf, o7', hl1, hl2, hl3⟩ := hg.lend (dataLL_map data_item _)
  simp only [go_sem, ↓reduceIte, NB, NA, g2, g3, hg.cellOk, hl1, hl2, hl3, underLL_of_data (dataLL_map data_item _), eraseExam]
def keysMap : List (AV × AV) := [(.int .i64 0, .str [48]), (.int .i64 1, .str [48]), (.int .i64 2, .str [45])]
theorem keysMap_find (k : Int) : (∃ j, findKey (vi k) keysMap 0 = some (some (j, .str (eraseKey k)))) ∨ (findKey (vi k) keysMap 0 = some none ∧ eraseKey k = []) := by
  rcases kinds k with rfl | rfl | rfl | ⟨h0, h1, h2⟩
  · exact .inl ⟨0, rfl⟩
  · exact .inl ⟨1, rfl⟩
  · exact .inl ⟨2, rfl⟩
  · refine .inr ⟨?_, by simp [eraseKey, h0, h1, h2]⟩
    simp only [findKey, keysMap, eqKey, if_true, bne_of h0, bne_of h1, bne_of h2]
set_option maxHeartbeats 1600000 in
theorem erase_asks {A : AProg} {g : String → Nat} {H0 : List AObj} {Q : AExit → SEnv → List AObj → List Nat → Prop} {tg}
    {va vm : Nat} {o0 o1 o3 o5 : AObj} {l : List Question} (hl : l.length ≤ 16) (hq : ∀ q ∈ l, q.Ok) {ρ : SEnv}
    (h3 : ρ 3 = .mp (H0.length + 2) vm) (h5 : ρ 5 = .sr (H0.length + 4) va l.length) (h27 : ρ 27 = .sr (H0.length + 4) va l.length) (h28 : ρ 28 = vi l.length) (h29 : ρ 29 = vi 0)
    (hQ : ∀ ρ' o5, (∀ t, source_Erase_w1.contains t = false → ρ' t = ρ t) → Q (.exit 2) ρ' (H0 ++ [o0, o1, .map vm keysMap, o3, .vec va 7 ((l.map eraseQ).map encQ), o5]) []) :
    wl A 63 ⟨H0.length, [1, 2, 8, 12, 26, 7]⟩ (source_Erase_l1 g) ρ (H0 ++ [o0, o1, .map vm keysMap, o3, .vec va 7 (l.map encQ), o5]) [] Q tg := by
  refine wl_for2 (W := source_Erase_w1) (fun i ρ1 H wr => wr = [] ∧ ρ1 29 = vi i ∧ ∃ o5, H = H0 ++ [o0, o1, .map vm keysMap, o3, .vec va 7 ((upto (fun _ => eraseQ) l i).map encQ), o5]) l.length
    (fun ρ1 H wr => wr = [] ∧ ∃ o5, H = H0 ++ [o0, o1, .map vm keysMap, o3, .vec va 7 ((l.map eraseQ).map encQ), o5])
    (by kernel_rfl) (by rfl) ⟨rfl, h29, o5, by rw [upto_zero]⟩ ?_ (by
      rintro ρ' H' wr' ⟨rfl, o5, rfl⟩ hf
      exact hQ ρ' o5 hf)
  rintro i ρ1 H1 wr1 hil ⟨rfl, hi29, o5, rfl⟩ hf
  have f3 : ρ1 3 = .mp (H0.length + 2) vm := (hf 3 (by decide)).trans h3
  have f5 : ρ1 5 = .sr (H0.length + 4) va l.length := (hf 5 (by decide)).trans h5
  have f27 : ρ1 27 = .sr (H0.length + 4) va l.length := (hf 27 (by decide)).trans h27
  have f28 : ρ1 28 = vi l.length := (hf 28 (by decide)).trans h28
  simp only [go_sem, f28, hi29]
  refine branch_intro (fun hb => ?_) (fun hb => ?_)
  · have hlt : i < l.length := by simpa using hb
    have hqi := hq l[i] (List.getElem_mem hlt)
    have hlr := hqi.lenR
    have hroom : roomy l[i].reasons.length 16 = true := by unfold roomy; simp; omega
    have hset : ((upto (fun _ => eraseQ) l i).map encQ).set i [vi l[i].kind, .sl false (l[i].stem.map encRun), .sl false (l[i].options.map encStr), .sl false (l[i].needs.map encInt), .str (eraseKey l[i].kind), vi 0, .sl false (List.replicate l[i].reasons.length [.str []])] =
        (upto (fun _ => eraseQ) l (i + 1)).map encQ := map_upto_set hlt (by simp only [encQ, eraseQ, List.map_replicate, encStr])
    simp only [go_sem, ↓reduceIte, NB, NA, NL, NE, f27, hi29, hlt, map_upto_get hlt, encQ]
    refine wc_draw' (keep := [11, 16, 19]) (by rfl) (by rfl) ?_
    rcases keysMap_find l[i].kind with ⟨j, hk⟩ | ⟨hk, he⟩
    · simp only [go_sem, ↓reduceIte, NB, NA, ND, NE, BF, f3, f5, hi29, hlt, map_upto_get hlt, encQ, hk, hroom, hset, logOk, apartL, orderOk_intro]
      rw [wrap_succ (by omega)]
      exact ⟨rfl, _, rfl⟩
    · rw [he] at hset
      simp only [go_sem, ↓reduceIte, NB, NA, ND, NE, BF, f3, f5, hi29, hlt, map_upto_get hlt, encQ, hk, hroom, hset, logOk, apartL, orderOk_intro]
      rw [wrap_succ (by omega)]
      exact ⟨rfl, _, rfl⟩
  · have hlt : i = l.length := by
      have : ¬ i < l.length := by simpa using hb
      omega
    subst hlt
    rw [upto_all, mapIdx_const]
    simp only [go_sem]
    exact ⟨o5, rfl⟩
theorem erase_items {A : AProg} {g : String → Nat} (hc2 : SpecClone A (g "slices.Clone[[]dactyl/api.Question,dactyl/api.Question]") 7 128) {H0 : List AObj} {Q : AExit → SEnv → List AObj → List Nat → Prop} {tg}
    {vx vl vm : Nat} {t0 : AV} {o1 o4 o5 : AObj} {l : List Item} (hl : l.length ≤ 16) (hq : ∀ x ∈ l, x.Ok) {ρ : SEnv}
    (h1 : ρ 1 = .ptr H0.length vx 0) (h3 : ρ 3 = .mp (H0.length + 2) vm) (h16 : ρ 16 = vi l.length) (h17 : ρ 17 = vi 0)
    (hQ : ∀ ρ' o4 o5, (∀ t, source_Erase_w0.contains t = false → ρ' t = ρ t) → Q (.exit 0) ρ' (H0 ++ [.box vx [t0, .sr (H0.length + 3) vl l.length], o1, .map vm keysMap, .vec vl 4 ((l.map eraseItem).map encItem), o4, o5]) []) :
    wl A 63 ⟨H0.length, [1, 2, 8, 12, 26, 7]⟩ (source_Erase_l0 g) ρ (H0 ++ [.box vx [t0, .sr (H0.length + 3) vl l.length], o1, .map vm keysMap, .vec vl 4 (l.map encItem), o4, o5]) [] Q tg := by
  refine wl_for2 (W := source_Erase_w0) (fun i ρ1 H wr => wr = [] ∧ ρ1 17 = vi i ∧ ∃ o4 o5, H = H0 ++ [.box vx [t0, .sr (H0.length + 3) vl l.length], o1, .map vm keysMap, .vec vl 4 ((upto (fun _ => eraseItem) l i).map encItem), o4, o5]) l.length
    (fun ρ1 H wr => wr = [] ∧ ∃ o4 o5, H = H0 ++ [.box vx [t0, .sr (H0.length + 3) vl l.length], o1, .map vm keysMap, .vec vl 4 ((l.map eraseItem).map encItem), o4, o5])
    (by kernel_rfl) (by rfl) ⟨rfl, h17, o4, o5, by rw [upto_zero]⟩ ?_ (by
      rintro ρ' H' wr' ⟨rfl, o4, o5, rfl⟩ hf
      exact hQ ρ' o4 o5 hf)
  rintro i ρ1 H1 wr1 hil ⟨rfl, hi17, o4, o5, rfl⟩ hf
  have f1 : ρ1 1 = .ptr H0.length vx 0 := (hf 1 (by decide)).trans h1
  have f3 : ρ1 3 = .mp (H0.length + 2) vm := (hf 3 (by decide)).trans h3
  have f16 : ρ1 16 = vi l.length := (hf 16 (by decide)).trans h16
  simp only [go_sem, f16, hi17]
  refine branch_intro (fun hb => ?_) (fun hb => ?_)
  · have hlt : i < l.length := by simpa using hb
    have hqi := hq l[i] (List.getElem_mem hlt)
    cases has : l[i].ask with
    | nil =>
      simp only [go_sem, ↓reduceIte, NB, NA, NE, f1, hi17, hlt, map_upto_get hlt, encItem, has, hc2.nil]
      refine wl_step (by kernel_rfl) ?_
      simp only [go_sem, ↓reduceIte, NB, NA, f1, hi17, hlt, map_upto_get hlt, encItem, has]
      rw [wrap_succ (by omega)]
      refine ⟨rfl, o4, o5, ?_⟩
      rw [map_upto_set hlt]
      simp only [encItem, eraseItem, has, List.map_nil]
    | cons q r =>
      have hla := hqi.lenA
      have hqa := hqi.ask
      rw [has] at hla hqa
      have hcl := fun H => hc2.cons (encQ q) (r.map encQ) H rfl (dataLL_map data_q (q :: r)) (by simp at hla ⊢; omega)
      simp only [go_sem, ↓reduceIte, NB, NA, NL, NE, f1, hi17, hlt, map_upto_get hlt, encItem, has, hcl]
      refine erase_asks (l := q :: r) (vm := vm) (va := o4.ver + 1) hla hqa (by simp only [go_sem, NB, f3]) (by simp only [go_sem, NB]) (by simp only [go_sem, NB]) (by simp only [go_sem, NB]) (by simp only [go_sem]) ?_
      intro ρ2 o6 hf2
      have g1 : ρ2 1 = .ptr H0.length vx 0 := by rw [hf2 1 (by decide)]; simp only [go_sem, NB, f1]
      have g4 : ρ2 4 = vi i := by rw [hf2 4 (by decide)]; simp only [go_sem, NB]
      have g5 : ρ2 5 = .sr (H0.length + 4) (o4.ver + 1) (r.length + 1) := by rw [hf2 5 (by decide)]; simp only [go_sem, NB]
      have g17 : ρ2 17 = vi i := by rw [hf2 17 (by decide)]; simp only [go_sem, NB, hi17]
      simp only [go_sem, ↓reduceIte, NB, NA, g1, g4, g5, g17, hlt, map_upto_get hlt, allStill_of_data (data_q _), allStill_rows (dataLL_map data_q _), encItem]
      rw [wrap_succ (by omega)]
      refine ⟨rfl, .gone (o4.ver + 1), o6, ?_⟩
      rw [map_upto_set hlt]
      simp only [encItem, eraseItem, has, List.map_cons]
  · have hlt : i = l.length := by
      have : ¬ i < l.length := by simpa using hb
      omega
    subst hlt
    rw [upto_all, mapIdx_const]
    simp only [go_sem]
    exact ⟨o4, o5, rfl⟩
theorem erase_spec {A : AProg} {g : String → Nat} (h : Has A g "dactyl/source.Erase" (source_Erase g))
    (hc2 : SpecClone A (g "slices.Clone[[]dactyl/api.Question,dactyl/api.Question]") 7 128)
    (hc3 : SpecClone A (g "slices.Clone[[]dactyl/api.Item,dactyl/api.Item]") 4 88) (x : Exam) (hx : x.Ok) (H : List AObj) :
    callI A (g "dactyl/source.Erase") [encExam x] H = some (encExam (eraseExam x), H, []) := by
  refine h.call (by simp [source_Erase]) (by kernel_rfl) ?_
  simp only [source_Erase]
  have hkm : [(AV.int .i64 0, AV.str [48]), (.int .i64 1, .str [48]), (.int .i64 2, .str [45])] = keysMap := rfl
  cases has : x.items with
  | nil =>
    simp only [go_sem, ↓reduceIte, NB, NA, NL, NE, IB, encExam, has, hc3.nil]
    refine wl_step (by kernel_rfl) ?_
    simp only [go_sem, ↓reduceIte, NB, NA, eraseExam, has]
  | cons y r =>
    have hli := hx.lenI
    have hqi := hx.items
    rw [has] at hli hqi
    have hcl := fun H => hc3.cons (encItem y) (r.map encItem) H rfl (dataLL_map data_item (y :: r)) (by simp at hli ⊢; omega)
    simp only [go_sem, ↓reduceIte, NB, NA, NL, NE, IB, encExam, has, hcl, hkm]
    refine erase_items hc2 (l := y :: r) hli hqi (by simp only [go_sem, NB]) (by simp only [go_sem, NB]) (by simp only [go_sem, NB]) (by simp only [go_sem]) ?_
    intro ρ2 o4 o5 hf2
    have g1 : ρ2 1 = .ptr H.length 1 0 := by rw [hf2 1 (by decide)]; simp only [go_sem, NB]
    have g2 : ρ2 2 = .ptr (H.length + 1) 1 0 := by rw [hf2 2 (by decide)]; simp only [go_sem, NB]
    simp only [go_sem, ↓reduceIte, NB, NA, g1, g2, allStill_of_data (data_item _), allStill_rows (dataLL_map data_item _), underL_of_data (data_item _), underLL_of_data (dataLL_map data_item _), eraseExam, has]
end Go.Proofs.AM
end
section
open Nat renaming reduceBEq → NB, reduceAdd → NA, reduceSub → NS, reduceMul → NM, reduceLT → NL, reduceLeDiff → ND, reduceEqDiff → NE
open Int renaming reduceLT → IL, reduceLE → ID, reduceToNat → IT, reduceEq → IE, reduceBEq → IB, reduceBNe → IN, reduceAdd → IA, reduceSub → IS, reduceNeg → IM
open Bool renaming not_true → BT, not_false → BF
set_option linter.unusedVariables false
set_option maxRecDepth 8000
namespace Go.Proofs.AM
open Go
def eqL {α : Type} (e : α → α → Bool) : List α → List α → Bool
  | [], [] => true
  | a :: x, b :: y => e a b && eqL e x y
  | _, _ => false
theorem eqL_len {α : Type} {e : α → α → Bool} : ∀ {x y : List α}, x.length ≠ y.length → eqL e x y = false
  | [], [], h => absurd rfl h
  | [], _ :: _, _ => rfl
  | _ :: _, [], _ => rfl
  | a :: x, b :: y, h => by
    unfold eqL
    rw [eqL_len (by simpa using h), Bool.and_false]
theorem eqL_drop {α : Type} {e : α → α → Bool} {x y : List α} {i : Nat} (hx : i < x.length) (hy : i < y.length) : eqL e (x.drop i) (y.drop i) = (e x[i] y[i] && eqL e (x.drop (i + 1)) (y.drop (i + 1))) := by
  rw [List.drop_eq_getElem_cons hx, List.drop_eq_getElem_cons hy]
  rfl
def asV (agg : Bool) (cs : List AV) : AV := if agg then .agg cs else cs.headD .undef
abbrev equalL (k : Nat) (agg : Bool) (ek : EqK) : ACode :=
  .seq (.region false [⟨some 14, .bin .lss .no (.tmp 13) (.tmp 12), none, []⟩]) <|
  .seq (.cond (.tmp 14) (.skip)
    (.exit 0)) <|
  .seq (.block 1 (.seq (.region false [⟨some 15, .mov (.tmp 13), none, []⟩,
      ⟨some 5, .mov (.tmp 15), none, [0]⟩]) <|
    .seq (.region true [⟨some 16, .mov (.tmp 0), none, []⟩,
  ⟨some 17, .mov (.tmp 5), none, []⟩,
  ⟨some 18, .iaV (.tmp 16) (.tmp 17) k, none, [0, 1]⟩,
  ⟨some 19, .load k agg (.tmp 18), none, [2, 0, 1]⟩,
  ⟨some 20, .mov (.tmp 1), none, []⟩,
  ⟨some 21, .mov (.tmp 5), none, []⟩,
  ⟨some 22, .iaV (.tmp 20) (.tmp 21) k, none, [4, 5]⟩,
  ⟨some 23, .load k agg (.tmp 22), none, [6, 4, 5]⟩,
  ⟨some 24, .bin .neq ek (.tmp 19) (.tmp 23), none, [3, 2, 0, 1, 7, 6, 4, 5]⟩]) <|
    .cond (.tmp 24) (.seq (.region false [⟨some 4, .mov (.const (.bool false)), none, []⟩]) <|
      .ret)
      (.skip))) <|
  .region false [⟨some 25, .bin .add .no (.tmp 13) (.const (.int .i64 1)), none, []⟩,
    ⟨some 13, .mov (.tmp 25), none, [0]⟩]
def equalFn (k : Nat) (agg : Bool) (ek : EqK) : AFn := ⟨26, [], [.tmp 4],
  .seq (.region false [⟨some 4, .mov (.const (.bool false)), none, []⟩]) <|
  .seq (.seq (.region false [⟨some 6, .mov (.tmp 0), none, []⟩,
    ⟨some 7, .lenV (.tmp 6), none, [0]⟩,
    ⟨some 8, .mov (.tmp 1), none, []⟩,
    ⟨some 9, .lenV (.tmp 8), none, [2]⟩,
    ⟨some 10, .bin .neq .no (.tmp 7) (.tmp 9), none, [1, 0, 3, 2]⟩]) <|
  .cond (.tmp 10) (.seq (.region false [⟨some 4, .mov (.const (.bool false)), none, []⟩]) <|
    .ret)
    (.skip)) <|
  .seq (.seq (.region false [⟨some 11, .mov (.tmp 0), none, []⟩,
    ⟨some 12, .lenV (.tmp 11), none, [0]⟩,
    ⟨some 13, .mov (.const (.int .i64 0)), none, []⟩]) <|
  .block 0 (.loop (equalL k agg ek))) <|
  .seq (.region false [⟨some 4, .mov (.const (.bool true)), none, []⟩]) <|
  .ret⟩
def SpecEq {α : Type} (A : AProg) (f : Nat) (enc : α → List AV) (e : α → α → Bool) : Prop :=
  ∀ (x y : List α) (H : List AObj), x.length < 4611686018427387904 → callI A f [.sl false (x.map enc), .sl false (y.map enc)] H = some (.bool (eqL e x y), H, [])
theorem equal_spec {α : Type} {A : AProg} {f k : Nat} {agg : Bool} {ek : EqK} {enc : α → List AV} {e : α → α → Bool} (hf : A.fn f = some (equalFn k agg ek)) (hp : A.prim f = none)
    (hk : ∀ a, (enc a).length = k) (ho : ∀ a, ofCells agg (enc a) = some (asV agg (enc a))) (hbin : ∀ a b, binV .neq ek (asV agg (enc a)) (asV agg (enc b)) = some (.bool !(e a b))) : SpecEq A f enc e := by
  intro x y H hx
  obtain ⟨v1, H1, wr1, h1, rfl, rfl, rfl⟩ := call_intro' (args := [.sl false (x.map enc), .sl false (y.map enc)]) (H := H) (K := fun v' H'' wr' => v' = .bool (eqL e x y) ∧ H'' = H ∧ wr' = []) hf (by rw [hp]; rfl) (by simp [equalFn]) (by rfl) (by
    simp only [equalFn]
    simp only [go_sem, NB]
    refine branch_intro (fun hb => ?_) (fun hb => ?_)
    · have hne : x.length ≠ y.length := by intro h; simp [h] at hb
      simp only [go_sem, eqL_len hne]
    · have hxy : x.length = y.length := by
        have : ¬ ((x.length : Int) ≠ y.length) := by simpa using hb
        omega
      simp only [go_sem, NB]
      refine wl_for (W := [14, 15, 5, 16, 17, 18, 19, 20, 21, 22, 23, 24, 4, 25, 13]) (fun i ρ1 H1 wr => wr = [] ∧ ρ1 13 = vi i ∧ H1 = H ∧ eqL e x y = eqL e (x.drop i) (y.drop i)) x.length (by rfl) (by rfl) ⟨rfl, rfl, by simp only [go_sem], rfl⟩ ?_
      rintro i ρ1 H1 wr1 hil ⟨rfl, h13, rfl, hi⟩ hf
      have f0 : ρ1 0 = .sl false (x.map enc) := by rw [hf 0 (by decide)]; simp only [go_sem, NB]
      have f1 : ρ1 1 = .sl false (y.map enc) := by rw [hf 1 (by decide)]; simp only [go_sem, NB]
      have f12 : ρ1 12 = vi x.length := by rw [hf 12 (by decide)]; simp only [go_sem, NB]
      simp only [go_sem, f12, h13]
      refine branch_intro (fun hb => ?_) (fun hb => ?_)
      · have hlt : i < x.length := by simpa using hb
        have hlty : i < y.length := by omega
        simp only [go_sem, NB, h13]
        refine wc_draw' (keep := []) (by rfl) (by rfl) ?_
        simp only [go_sem, ↓reduceIte, NB, NA, f0, f1, hlt, getElem?_map_of hlt, getElem?_map_of hlty, hk, ho, hbin, List.take_of_length_le]
        refine branch_intro (fun hb => ?_) (fun hb => ?_)
        · have he : e x[i] y[i] = false := by simpa using hb
          simp only [go_sem, BF, hi, eqL_drop hlt hlty, he]
        · have he : e x[i] y[i] = true := by simpa using hb
          simp only [go_sem, NB, h13]
          rw [wrap_succ (by omega)]
          exact ⟨hlt, rfl, by rw [hi, eqL_drop hlt hlty, he, Bool.true_and]⟩
      · have hlt : i = x.length := by
          have : ¬ i < x.length := by simpa using hb
          omega
        subst hlt
        rw [List.drop_eq_nil_of_le (Nat.le_refl _), List.drop_eq_nil_of_le (by omega)] at hi
        simp only [go_sem, hi, eqL])
  exact h1
abbrev eqfL (k : Nat) (zs : List AV) : ACode :=
  .seq (.region false [⟨some 18, .bin .lss .no (.tmp 17) (.tmp 16), none, []⟩]) <|
  .seq (.cond (.tmp 18) (.skip)
    (.exit 0)) <|
  .seq (.block 1 (.seq (.region false [⟨some 19, .mov (.tmp 17), none, []⟩,
      ⟨some 20, .iaV (.tmp 15) (.tmp 17) k, none, []⟩,
      ⟨some 21, .load k true (.tmp 20), none, [1]⟩,
      ⟨some 8, .alloc zs, none, []⟩,
      ⟨some 7, .mov (.tmp 19), none, [0, 2, 1, 3]⟩,
      ⟨none, .store k (.tmp 8) (.tmp 21), none, [4, 0, 2, 1, 3]⟩]) <|
    .seq (.region false [⟨some 22, .mov (.tmp 1), none, []⟩,
      ⟨some 23, .mov (.tmp 7), none, []⟩,
      ⟨some 24, .iaV (.tmp 22) (.tmp 23) k, none, [0, 1]⟩,
      ⟨some 25, .load k true (.tmp 24), none, [2, 0, 1]⟩,
      ⟨some 9, .alloc zs, none, []⟩,
      ⟨none, .store k (.tmp 9) (.tmp 25), none, [3, 2, 0, 1, 4]⟩]) <|
    .seq (.region false [⟨some 26, .mov (.tmp 2), none, []⟩,
      ⟨some 27, .load k true (.tmp 8), none, []⟩,
      ⟨some 28, .load k true (.tmp 9), none, []⟩,
      ⟨some 29, .callv (.tmp 26) [(.tmp 27), (.tmp 28)], none, [0, 1, 2]⟩,
      ⟨some 30, .un .not (.tmp 29), none, [3, 0, 1, 2]⟩]) <|
    .cond (.tmp 30) (.seq (.region false [⟨some 6, .mov (.const (.bool false)), none, []⟩]) <|
      .ret)
      (.skip))) <|
  .region false [⟨some 31, .bin .add .no (.tmp 17) (.const (.int .i64 1)), none, []⟩,
    ⟨some 17, .mov (.tmp 31), none, [0]⟩]
def eqfFn (k : Nat) (zs : List AV) : AFn := ⟨32, [8, 9], [.tmp 6],
  .seq (.region false [⟨some 6, .mov (.const (.bool false)), none, []⟩]) <|
  .seq (.seq (.region false [⟨some 10, .mov (.tmp 0), none, []⟩,
    ⟨some 11, .lenV (.tmp 10), none, [0]⟩,
    ⟨some 12, .mov (.tmp 1), none, []⟩,
    ⟨some 13, .lenV (.tmp 12), none, [2]⟩,
    ⟨some 14, .bin .neq .no (.tmp 11) (.tmp 13), none, [1, 0, 3, 2]⟩]) <|
  .cond (.tmp 14) (.seq (.region false [⟨some 6, .mov (.const (.bool false)), none, []⟩]) <|
    .ret)
    (.skip)) <|
  .seq (.seq (.region false [⟨some 15, .mov (.tmp 0), none, []⟩,
    ⟨some 16, .lenV (.tmp 15), none, [0]⟩,
    ⟨some 17, .mov (.const (.int .i64 0)), none, []⟩]) <|
  .block 0 (.loop (eqfL k zs))) <|
  .seq (.region false [⟨some 6, .mov (.const (.bool true)), none, []⟩]) <|
  .ret⟩
abbrev eqfL1 : ACode := .seq (.region false [⟨some 18, .bin .lss .no (.tmp 17) (.tmp 16), none, []⟩]) <| .seq (.cond (.tmp 18) (.skip) (.exit 0)) <| .seq (.block 1 (.seq (.region false [⟨some 19, .mov (.tmp 17), none, []⟩,⟨some 20, .iaV (.tmp 15) (.tmp 17) 1, none, []⟩,⟨some 21, .load 1 false (.tmp 20), none, [1]⟩,⟨some 7, .mov (.tmp 19), none, [0, 2, 1]⟩,⟨some 8, .mov (.tmp 21), none, [3, 0, 2, 1]⟩]) <| .seq (.region false [⟨some 22, .mov (.tmp 1), none, []⟩,⟨some 23, .mov (.tmp 7), none, []⟩,⟨some 24, .iaV (.tmp 22) (.tmp 23) 1, none, [0, 1]⟩,⟨some 25, .load 1 false (.tmp 24), none, [2, 0, 1]⟩,⟨some 9, .mov (.tmp 25), none, [3, 2, 0, 1]⟩]) <| .seq (.region false [⟨some 26, .mov (.tmp 2), none, []⟩,⟨some 27, .mov (.tmp 8), none, []⟩,⟨some 28, .mov (.tmp 9), none, []⟩,⟨some 29, .callv (.tmp 26) [(.tmp 27), (.tmp 28)], none, [0, 1, 2]⟩,⟨some 30, .un .not (.tmp 29), none, [3, 0, 1, 2]⟩]) <| .cond (.tmp 30) (.seq (.region false [⟨some 6, .mov (.const (.bool false)), none, []⟩]) <| .ret) (.skip))) <| .region false [⟨some 31, .bin .add .no (.tmp 17) (.const (.int .i64 1)), none, []⟩,⟨some 17, .mov (.tmp 31), none, [0]⟩]
def eqfFn1 : AFn := ⟨32, [], [.tmp 6],
  .seq (.region false [⟨some 6, .mov (.const (.bool false)), none, []⟩]) <|
  .seq (.seq (.region false [⟨some 10, .mov (.tmp 0), none, []⟩,
    ⟨some 11, .lenV (.tmp 10), none, [0]⟩,
    ⟨some 12, .mov (.tmp 1), none, []⟩,
    ⟨some 13, .lenV (.tmp 12), none, [2]⟩,
    ⟨some 14, .bin .neq .no (.tmp 11) (.tmp 13), none, [1, 0, 3, 2]⟩]) <|
  .cond (.tmp 14) (.seq (.region false [⟨some 6, .mov (.const (.bool false)), none, []⟩]) <|
    .ret)
    (.skip)) <|
  .seq (.seq (.region false [⟨some 15, .mov (.tmp 0), none, []⟩,
    ⟨some 16, .lenV (.tmp 15), none, [0]⟩,
    ⟨some 17, .mov (.const (.int .i64 0)), none, []⟩]) <|
  .block 0 (.loop eqfL1)) <|
  .seq (.region false [⟨some 6, .mov (.const (.bool true)), none, []⟩]) <|
  .ret⟩
def SpecCmp {α : Type} (A : AProg) (f : Nat) (v : α → AV) (e : α → α → Bool) (P : α → Prop) : Prop := ∀ (a b : α) (H : List AObj), P a → callI A f [v a, v b] H = some (.bool (e a b), H, [])
def SpecEqF {α : Type} (A : AProg) (f h : Nat) (enc : α → List AV) (e : α → α → Bool) (P : α → Prop) : Prop :=
  ∀ (x y : List α) (H : List AObj), x.length < 4611686018427387904 → (∀ a ∈ x, P a) → callI A f [.sl false (x.map enc), .sl false (y.map enc), .fn h [] []] H = some (.bool (eqL e x y), H, [])
theorem eqf_spec {α : Type} {A : AProg} {f h k : Nat} {zs : List AV} {enc : α → List AV} {e : α → α → Bool} {P : α → Prop} (hf : A.fn f = some (eqfFn k zs)) (hp : A.prim f = none) (hz : zs.length = k)
    (hk : ∀ a, (enc a).length = k) (hd : ∀ a, dataL (enc a) = true) (hc : SpecCmp A h (fun a => .agg (enc a)) e P) : SpecEqF A f h enc e P := by
  intro x y H hx hP
  obtain ⟨v1, H1, wr1, h1, rfl, rfl, rfl⟩ := call_intro' (args := [.sl false (x.map enc), .sl false (y.map enc), .fn h [] []]) (H := H) (K := fun v' H'' wr' => v' = .bool (eqL e x y) ∧ H'' = H ∧ wr' = []) hf (by rw [hp]; rfl) (by simp [eqfFn]) (by rfl) (by
    simp only [eqfFn]
    simp only [go_sem, NB, NA]
    refine branch_intro (fun hb => ?_) (fun hb => ?_)
    · have hne : x.length ≠ y.length := by intro h; simp [h] at hb
      simp only [go_sem, eqL_len hne]
    · have hxy : x.length = y.length := by
        have : ¬ ((x.length : Int) ≠ y.length) := by simpa using hb
        omega
      simp only [go_sem, NB]
      refine wl_for (W := [18, 19, 20, 21, 8, 7, 22, 23, 24, 25, 9, 26, 27, 28, 29, 30, 6, 31, 17]) (fun i ρ1 H1 wr => wr = [] ∧ ρ1 17 = vi i ∧ (∃ o1 o2, H1 = H ++ [o1, o2]) ∧ eqL e x y = eqL e (x.drop i) (y.drop i)) x.length (by rfl) (by rfl) ⟨rfl, by simp only [go_sem],⟨_, _, rfl⟩, rfl⟩ ?_
      rintro i ρ1 H1 wr1 hil ⟨rfl, h17,⟨o1, o2, rfl⟩, hi⟩ hf
      have f1 : ρ1 1 = .sl false (y.map enc) := by rw [hf 1 (by decide)]; simp only [go_sem, NB]
      have f2 : ρ1 2 = .fn h [] [] := by rw [hf 2 (by decide)]; simp only [go_sem, NB]
      have f15 : ρ1 15 = .sl false (x.map enc) := by rw [hf 15 (by decide)]; simp only [go_sem, NB]
      have f16 : ρ1 16 = vi x.length := by rw [hf 16 (by decide)]; simp only [go_sem, NB]
      simp only [go_sem, f16, h17]
      refine branch_intro (fun hb => ?_) (fun hb => ?_)
      · have hlt : i < x.length := by simpa using hb
        have hlty : i < y.length := by omega
        have hcc := fun H => hc x[i] y[i] H (hP _ (List.getElem_mem hlt))
        have htk : ∀ a, List.take k (enc a) = enc a := fun a => List.take_of_length_le (by rw [hk a]; exact Nat.le_refl _)
        have htk2 : List.drop k zs = [] := List.drop_of_length_le (by rw [hz]; exact Nat.le_refl _)
        simp only [go_sem, ↓reduceIte, NB, NA, NL, NE, f1, f2, f15, h17, hlt, getElem?_map_of hlt, getElem?_map_of hlty, hk, hz, htk, htk2, lendL_of_data (hd _), map_strip1_of_data (hd _), allCellOk_of_data (hd _), hcc]
        refine branch_intro (fun hb => ?_) (fun hb => ?_)
        · have he : e x[i] y[i] = false := by simpa using hb
          simp only [go_sem, BF, hi, eqL_drop hlt hlty, he]
        · have he : e x[i] y[i] = true := by simpa using hb
          simp only [go_sem, NB, h17]
          rw [wrap_succ (by omega)]
          exact ⟨hlt, rfl,⟨_, _, rfl⟩, by rw [hi, eqL_drop hlt hlty, he, Bool.true_and]⟩
      · have hlt : i = x.length := by
          have : ¬ i < x.length := by simpa using hb
          omega
        subst hlt
        rw [List.drop_eq_nil_of_le (Nat.le_refl _), List.drop_eq_nil_of_le (by omega)] at hi
        simp only [go_sem, hi, eqL])
  exact h1
theorem eqf1_spec {α : Type} {A : AProg} {f h : Nat} {v : α → AV} {enc : α → List AV} {e : α → α → Bool} {P : α → Prop} (hf : A.fn f = some (eqfFn1)) (hp : A.prim f = none)
    (hv : ∀ a, enc a = [v a]) (hd : ∀ a, (v a).data = true) (hd2 : ∀ a, (v a).cellOk = true) (hc : SpecCmp A h v e P) : SpecEqF A f h enc e P := by
  intro x y H hx hP
  obtain ⟨v1, H1, wr1, h1, rfl, rfl, rfl⟩ := call_intro' (args := [.sl false (x.map enc), .sl false (y.map enc), .fn h [] []]) (H := H) (K := fun v' H'' wr' => v' = .bool (eqL e x y) ∧ H'' = H ∧ wr' = []) hf (by rw [hp]; rfl) (by simp [eqfFn1]) (by rfl) (by
    simp only [eqfFn1]
    simp only [go_sem, NB]
    refine branch_intro (fun hb => ?_) (fun hb => ?_)
    · have hne : x.length ≠ y.length := by intro h; simp [h] at hb
      simp only [go_sem, eqL_len hne]
    · have hxy : x.length = y.length := by
        have : ¬ ((x.length : Int) ≠ y.length) := by simpa using hb
        omega
      simp only [go_sem, NB]
      refine wl_for (W := [18, 19, 20, 21, 7, 8, 22, 23, 24, 25, 9, 26, 27, 28, 29, 30, 6, 31, 17]) (fun i ρ1 H1 wr => wr = [] ∧ ρ1 17 = vi i ∧ H1 = H ∧ eqL e x y = eqL e (x.drop i) (y.drop i)) x.length (by rfl) (by rfl) ⟨rfl, by simp only [go_sem], by simp only [go_sem], rfl⟩ ?_
      rintro i ρ1 H1 wr1 hil ⟨rfl, h17, rfl, hi⟩ hf
      have f1 : ρ1 1 = .sl false (y.map enc) := by rw [hf 1 (by decide)]; simp only [go_sem, NB]
      have f2 : ρ1 2 = .fn h [] [] := by rw [hf 2 (by decide)]; simp only [go_sem, NB]
      have f15 : ρ1 15 = .sl false (x.map enc) := by rw [hf 15 (by decide)]; simp only [go_sem, NB]
      have f16 : ρ1 16 = vi x.length := by rw [hf 16 (by decide)]; simp only [go_sem, NB]
      simp only [go_sem, f16, h17]
      refine branch_intro (fun hb => ?_) (fun hb => ?_)
      · have hlt : i < x.length := by simpa using hb
        have hlty : i < y.length := by omega
        have hcc := fun H => hc x[i] y[i] H (hP _ (List.getElem_mem hlt))
        have hst : ∀ a, (v a).strip = v a := fun a => by
          have h1 := strip1_of_data (hd a)
          cases hva : v a <;> first | rfl | skip
          all_goals first | (rw [hva] at h1; exact h1) | (have := hd2 a; rw [hva] at this; cases this)
        have hle : ∀ a (H : List AObj), lend H (v a) = some (v a, []) := fun a H => by
          have h1 := lend1_of_data (H := H) (hd a) (hd2 a)
          cases hva : v a <;> first | rfl | skip
          all_goals first | (rw [hva] at h1; exact h1) | (have := hd2 a; rw [hva] at this; cases this)
        simp only [go_sem, ↓reduceIte, NB, f1, f2, f15, h17, hlt, getElem?_map_of hlt, getElem?_map_of hlty, hv, hst, hle, hcc]
        refine branch_intro (fun hb => ?_) (fun hb => ?_)
        · have he : e x[i] y[i] = false := by simpa using hb
          simp only [go_sem, BF, hi, eqL_drop hlt hlty, he]
        · have he : e x[i] y[i] = true := by simpa using hb
          simp only [go_sem, NB, h17]
          rw [wrap_succ (by omega)]
          exact ⟨hlt, rfl, by rw [hi, eqL_drop hlt hlty, he, Bool.true_and]⟩
      · have hlt : i = x.length := by
          have : ¬ i < x.length := by simpa using hb
          omega
        subst hlt
        rw [List.drop_eq_nil_of_le (Nat.le_refl _), List.drop_eq_nil_of_le (by omega)] at hi
        simp only [go_sem, hi, eqL])
  exact h1
theorem eqL_decide {α : Type} [DecidableEq α] : ∀ {x y : List α}, eqL (fun a b => decide (a = b)) x y = decide (x = y)
  | [], [] => rfl
  | [], _ :: _ => by simp [eqL]
  | _ :: _, [] => by simp [eqL]
  | a :: x, b :: y => by
    unfold eqL
    rw [eqL_decide]
    simp
end Go.Proofs.AM
end
